/- For all arguments within the row's reach the law FnChangeGiven answers true.
No further conditions. -/
import Derived.Test.YtjjajbgijncfoaaPFnChangeGivenx0
import Derived.Test.YtjjajbgijncfoaaPFnChangeGivenx1
import Derived.Test.YtjjajbgijncfoaaPFnChangeGivenx10
import Derived.Test.YtjjajbgijncfoaaPFnChangeGivenx11
import Derived.Test.YtjjajbgijncfoaaPFnChangeGivenx12
import Derived.Test.YtjjajbgijncfoaaPFnChangeGivenx13
import Derived.Test.YtjjajbgijncfoaaPFnChangeGivenx2
import Derived.Test.YtjjajbgijncfoaaPFnChangeGivenx3
import Derived.Test.YtjjajbgijncfoaaPFnChangeGivenx4
import Derived.Test.YtjjajbgijncfoaaPFnChangeGivenx5
import Derived.Test.YtjjajbgijncfoaaPFnChangeGivenx6
import Derived.Test.YtjjajbgijncfoaaPFnChangeGivenx7
import Derived.Test.YtjjajbgijncfoaaPFnChangeGivenx8
import Derived.Test.YtjjajbgijncfoaaPFnChangeGivenx9
set_option linter.unusedVariables false
set_option linter.unusedSimpArgs false
namespace Go.Proofs.Ytjjajbgijncfoaa.Pure
open Go.RowKit Go.Proofs.Ytjjajbgijncfoaa.PFnChangeGiven Go.Proofs.YtjjajbgijncfoaaW.PrintWords Go.Proofs.YtjjajbgijncfoaaW.PrintLast Go.Proofs.YtjjajbgijncfoaaW.PrintMore
theorem Ev.pos {α : Type} {c : Prop} [Decidable c] {g f : Nat → Option α} {r : α} (hc : c) (h : Ev g r) : Ev (fun k => if c then g k else f k) r := by
 obtain ⟨K, h⟩ := h
 exact ⟨K, fun k hk => by show (if c then g k else f k) = _; rw [if_pos hc]; exact h k hk⟩
theorem Ev.neg {α : Type} {c : Prop} [Decidable c] {g f : Nat → Option α} {r : α} (hc : ¬ c) (h : Ev f r) : Ev (fun k => if c then g k else f k) r := by
 obtain ⟨K, h⟩ := h
 exact ⟨K, fun k hk => by show (if c then g k else f k) = _; rw [if_neg hc]; exact h k hk⟩
theorem Ev.val {α : Type} {a r : α} (h : a = r) : Ev (fun _ => some a) r := ⟨0, fun _ _ => by rw [h]⟩
theorem Ev.bindc {α β : Type} {a : Option α} {f : Nat → α → Option β} {x : α} {r : β} (h : a = some x) (k : Ev (fun n => f n x) r) : Ev (fun n => a.bind (f n)) r := by
 obtain ⟨K, k⟩ := k
 exact ⟨K, fun n hn => by show a.bind (f n) = _; rw [h]; exact k n hn⟩
theorem Ev.eq {α : Type} {g : Nat → Option α} {r r' : α} (h : Ev g r) (e : r = r') : Ev g r' := e ▸ h
def inB (a b c : Int) : Bool := decide (b ≤ a) && decide (a ≤ c)
theorem Ev.ite {α : Type} {c : Prop} [Decidable c] {g f : Nat → Option α} {r : α} (h : c → Ev g r) (h' : ¬ c → Ev f r) : Ev (fun k => if c then g k else f k) r := by
 by_cases hc : c
 · exact Ev.pos hc (h hc)
 exact Ev.neg hc (h' hc)
theorem rd_eq (l : List Int) (i : Nat) (h : i < l.length) : rd l (i : Int) = l[i] := by simp [rd, List.getD_eq_getElem?_getD, List.getElem?_eq_getElem h]
theorem rd_app (p : List Int) (x : Int) (s : List Int) : rd (p ++ x :: s) (p.length : Int) = x := by simp [rd, List.getD_eq_getElem?_getD]
theorem w64 {n : Int} (h0 : -9223372036854775808 ≤ n) (h1 : n ≤ 9223372036854775807) : wrap64 n = n := by unfold wrap64; omega
theorem spec_l1In.val (a b c : Int) : spec_l1In.f a b c = some (decide (b ≤ a) && decide (a ≤ c)) := by
 unfold spec_l1In.f
 by_cases h : a ≥ b
 · rw [if_pos h]; simp [show b ≤ a from h]
 rw [if_neg h]; simp [show ¬ b ≤ a from h]
theorem spec_l1In.valB (a b c : Int) : spec_l1In.f a b c = some (inB a b c) := spec_l1In.val a b c
theorem impl_within.val (a b c : Int) : impl_within.f a b c = some (decide (b ≤ a) && decide (a ≤ c)) := by
 unfold impl_within.f
 by_cases h : b ≤ a
 · rw [if_pos h]; simp [h]
 rw [if_neg h]; simp [h]
theorem impl_within.valB (a b c : Int) : impl_within.f a b c = some (inB a b c) := impl_within.val a b c
theorem impl_areWithin.val (l : List Int) (a b : Int) : impl_areWithin.f l a b = some (l.all fun x => decide (a ≤ x) && decide (x ≤ b)) := rfl
/-- Each element is greater than the one before. -/
def risesB : List Int → Bool
 | [] => true
 | [_] => true
 | x :: y :: s => decide (x < y) && risesB (y :: s)
theorem rises_of_pairwise : ∀ l : List Int, l.Pairwise (fun x y => x < y) → risesB l = true
 | [], _ => rfl
 | [_], _ => rfl
 | x :: y :: s, h => by
  rw [List.pairwise_cons] at h
  rw [risesB, rises_of_pairwise (y :: s) h.2, decide_eq_true (h.1 y (by simp))]; rfl
theorem spec_l1Rising.ev_l (a b : Int) (s : List Int) : ∀ (p : List Int) (x : Int), p.length + s.length + 1 ≤ 9223372036854775806 → Ev (fun k => spec_l1Rising.l0 k (p ++ x :: s) a b (p ++ x :: s) ((p ++ x :: s).length : Int) ((p.length + 1 : Nat) : Int)) ((s.all fun x => inB x a b) && risesB (x :: s)) := by
 induction s with
 | nil =>
  intro p x hp
  refine Ev.step (f := fun _ => some true) (fun k => ?_) (Ev.val (by simp [risesB]))
  rw [spec_l1Rising.l0, if_neg (by simp)]
 | cons y s ih =>
  intro p x hp
  simp only [List.length_cons] at hp
  have e1 : rd (p ++ x :: y :: s) (p.length : Int) = x := rd_app p x _
  have e2 : rd (p ++ x :: y :: s) ((p.length + 1 : Nat) : Int) = y := by
   have := rd_app (p ++ [x]) y s
   simpa using this
  have hw : wrap64 (((p.length + 1 : Nat) : Int) - 1) = (p.length : Int) := by rw [w64 (by omega) (by omega)]; omega
  have h := ih (p ++ [x]) y (by simp <;> omega)
  by_cases c : inB y a b = true
  · by_cases c2 : x < y
    · refine Ev.step (f := fun k => spec_l1Rising.l0 k ((p ++ [x]) ++ y :: s) a b ((p ++ [x]) ++ y :: s) (((p ++ [x]) ++ y :: s).length : Int) (((p ++ [x]).length + 1 : Nat) : Int)) (fun k => ?_) (Ev.eq h (by simp only [List.all_cons, c, risesB, c2, decide_true, Bool.true_and]))
      rw [spec_l1Rising.l0, if_pos (by simp <;> omega), if_pos (by omega), if_pos (by simp <;> omega), e2, spec_l1In.valB, Option.bind_some, if_pos c, if_pos (by omega), hw, if_pos (by omega), if_pos (by simp <;> omega), e1, if_neg (by omega), w64 (by omega) (by omega)]
      simp
    refine Ev.step (f := fun _ => some false) (fun k => ?_) (Ev.val (by simp [risesB, c2]))
    rw [spec_l1Rising.l0, if_pos (by simp <;> omega), if_pos (by omega), if_pos (by simp <;> omega), e2, spec_l1In.valB, Option.bind_some, if_pos c, if_pos (by omega), hw, if_pos (by omega), if_pos (by simp <;> omega), e1, if_pos (by omega)]
  refine Ev.step (f := fun _ => some false) (fun k => ?_) (Ev.val (by simp only [List.all_cons]; rw [Bool.not_eq_true] at c; rw [c]; rfl))
  rw [spec_l1Rising.l0, if_pos (by simp <;> omega), if_pos (by omega), if_pos (by simp <;> omega), e2, spec_l1In.valB, Option.bind_some, if_neg c]
theorem spec_l1Rising.ev (l : List Int) (a b : Int) (hl : l.length ≤ 9223372036854775806) : Ev (fun k => spec_l1Rising.f k l a b) ((l.all fun x => inB x a b) && risesB l) := by
 unfold spec_l1Rising.f
 cases l with
 | nil =>
  refine Ev.step (f := fun _ => some true) (fun k => ?_) (Ev.val (by simp [risesB]))
  rw [spec_l1Rising.l0, if_neg (by simp)]
 | cons x s =>
  have h := spec_l1Rising.ev_l a b s [] x (by simpa using hl)
  simp only [List.length_cons] at hl
  have e1 : rd (x :: s) 0 = x := by simp [rd]
  by_cases c : inB x a b = true
  · refine Ev.step (f := fun k => spec_l1Rising.l0 k (x :: s) a b (x :: s) ((x :: s).length : Int) ((([] : List Int).length + 1 : Nat) : Int)) (fun k => ?_) (Ev.eq h (by simp [c]))
    rw [spec_l1Rising.l0, if_pos (by simp <;> omega), if_pos (by omega), if_pos (by simp <;> omega), e1, spec_l1In.valB, Option.bind_some, if_pos c, if_neg (by omega), w64 (by omega) (by omega)]
    simp
  refine Ev.step (f := fun _ => some false) (fun k => ?_) (Ev.val (by simp only [List.all_cons]; rw [Bool.not_eq_true] at c; rw [c]; rfl))
  rw [spec_l1Rising.l0, if_pos (by simp <;> omega), if_pos (by omega), if_pos (by simp <;> omega), e1, spec_l1In.valB, Option.bind_some, if_neg c]
theorem impl_rises.ev_l (s : List Int) : ∀ (p : List Int) (x : Int), p.length + s.length + 1 ≤ 9223372036854775806 → Ev (fun k => impl_rises.l0 k (p ++ x :: s) ((p.length + 1 : Nat) : Int)) (risesB (x :: s)) := by
 induction s with
 | nil =>
  intro p x hp
  refine Ev.step (f := fun _ => some true) (fun k => ?_) (Ev.val (by simp [risesB]))
  rw [impl_rises.l0, if_neg (by simp)]
 | cons y s ih =>
  intro p x hp
  simp only [List.length_cons] at hp
  have e1 : rd (p ++ x :: y :: s) (p.length : Int) = x := rd_app p x _
  have e2 : rd (p ++ x :: y :: s) ((p.length + 1 : Nat) : Int) = y := by
   have := rd_app (p ++ [x]) y s
   simpa using this
  have hw : wrap64 (((p.length + 1 : Nat) : Int) - 1) = (p.length : Int) := by rw [w64 (by omega) (by omega)]; omega
  by_cases c : x < y
  · have h := ih (p ++ [x]) y (by simp <;> omega)
    refine Ev.step (f := fun k => impl_rises.l0 k ((p ++ [x]) ++ y :: s) (((p ++ [x]).length + 1 : Nat) : Int)) (fun k => ?_) (Ev.eq h (by simp [risesB, c]))
    rw [impl_rises.l0, if_pos (by simp <;> omega), hw, if_pos (by omega), if_pos (by simp <;> omega), if_pos (by omega), e1, e2, if_neg (by omega), w64 (by omega) (by omega)]
    simp
  refine Ev.step (f := fun _ => some false) (fun k => ?_) (Ev.val (by simp [risesB, c]))
  rw [impl_rises.l0, if_pos (by simp <;> omega), hw, if_pos (by omega), if_pos (by simp <;> omega), if_pos (by omega), e1, e2, if_pos (by omega)]
theorem impl_rises.ev (l : List Int) (hl : l.length ≤ 9223372036854775806) : Ev (fun k => impl_rises.f k l) (risesB l) := by
 unfold impl_rises.f
 cases l with
 | nil =>
  refine Ev.step (f := fun _ => some true) (fun k => ?_) (Ev.val (by simp [risesB]))
  rw [impl_rises.l0, if_neg (by simp)]
 | cons x s => exact impl_rises.ev_l s [] x (by simp at hl ⊢; omega)
theorem risesB_head {x : Int} {s : List Int} (h : risesB (x :: s) = true) : ∀ y ∈ s, x < y := by
 induction s generalizing x with
 | nil => simp
 | cons z s ih =>
  simp only [risesB, Bool.and_eq_true, decide_eq_true_eq] at h
  intro y hy
  rcases List.mem_cons.1 hy with rfl | hy
  · exact h.1
  have := ih h.2 y hy; omega
theorem pairwise_of_rises : ∀ l : List Int, risesB l = true → l.Pairwise (fun x y => x < y)
 | [], _ => List.Pairwise.nil
 | x :: s, h => List.pairwise_cons.2 ⟨risesB_head h, pairwise_of_rises s (by
  cases s with
  | nil => rfl
  | cons y s => rw [risesB, Bool.and_eq_true] at h; exact h.2)⟩
/-- A table of N values. -/
def tab (N : Nat) (f : Int → Int) : List Int := (List.range N).map fun (i : Nat) => f (i : Int)
theorem tab_length (N : Nat) (f : Int → Int) : (tab N f).length = N := by simp [tab]
theorem rd_tab (N : Nat) (f : Int → Int) (i : Int) (h0 : 0 ≤ i) (h1 : i < N) : rd (tab N f) i = f i := by
 obtain ⟨n, rfl⟩ := Int.eq_ofNat_of_zero_le h0
 rw [rd_eq _ _ (by rw [tab_length]; omega)]
 simp [tab]
theorem tab_congr (N : Nat) (f g : Int → Int) (h : ∀ i : Int, 0 ≤ i → i < N → f i = g i) : tab N f = tab N g := by
 unfold tab
 apply List.map_congr_left
 intro i hi
 exact h i (by omega) (by have := List.mem_range.1 hi; omega)
theorem tab_set (N : Nat) (f : Int → Int) (i : Int) (v : Int) (h0 : 0 ≤ i) : (tab N f).set i.toNat v = tab N (fun j => if j = i then v else f j) := by
 obtain ⟨n, rfl⟩ := Int.eq_ofNat_of_zero_le h0
 apply List.ext_getElem?
 intro j
 unfold tab
 by_cases hj : j < N
 · by_cases e : n = j
   · subst e
     simp [hj]
   rw [List.getElem?_set_ne (by simpa using e)]
   simp [hj]
   omega
 rw [List.getElem?_eq_none (by simp; omega), List.getElem?_eq_none (by simp; omega)]
/-- How many ways there are to make s of some of the pieces. -/
def cnt : List Int → Int → Int
 | [], s => if s = 0 then 1 else 0
 | x :: t, s => cnt t s + cnt t (s - x)
theorem sum_nonneg (l : List Int) (hl : ∀ x ∈ l, 0 ≤ x) : 0 ≤ l.sum := by
 induction l with
 | nil => simp
 | cons x t ih =>
  have hx := hl x (by simp)
  have := ih (fun y hy => hl y (by simp [hy]))
  rw [List.sum_cons]; omega
theorem impl_total.ev_l (s : List Int) : ∀ (p : List Int) (a : Int), p.length + s.length ≤ 1000000000 → 0 ≤ a → (∀ x ∈ s, 0 ≤ x) → a + s.sum ≤ 1000000000 → Ev (fun k => impl_total.l0 k a (p ++ s) ((p ++ s).length : Int) (p.length : Int)) (a + s.sum) := by
 induction s with
 | nil =>
  intro p a hp h0 hs hsum
  refine Ev.step (f := fun _ => some a) (fun k => ?_) (Ev.val (by simp))
  rw [impl_total.l0, if_neg (by simp)]
 | cons x s ih =>
  intro p a hp h0 hs hsum
  simp only [List.length_cons] at hp
  rw [List.sum_cons] at hsum
  have hx := hs x (by simp)
  have hs' : ∀ y ∈ s, 0 ≤ y := fun y hy => hs y (by simp [hy])
  have hsn := sum_nonneg s hs'
  have h := ih (p ++ [x]) (a + x) (by simp <;> omega) (by omega) hs' (by omega)
  refine Ev.step (f := fun k => impl_total.l0 k (a + x) ((p ++ [x]) ++ s) (((p ++ [x]) ++ s).length : Int) ((p ++ [x]).length : Int)) (fun k => ?_) (Ev.eq h (by rw [List.sum_cons]; omega))
  rw [impl_total.l0, if_pos (by simp <;> omega), if_pos (by omega), if_pos (by simp <;> omega), rd_app, w64 (n := a + x) (by omega) (by omega), w64 (by omega) (by omega)]
  simp
theorem impl_total.ev (l : List Int) (hl : l.length ≤ 1000000000) (h0 : ∀ x ∈ l, 0 ≤ x) (hs : l.sum ≤ 1000000000) : Ev (fun k => impl_total.f k l) l.sum := by
 have h := impl_total.ev_l l [] 0 (by simpa using hl) (by omega) h0 (by omega)
 exact Ev.eq h (by omega)
theorem spec_piSum.ev_l (s : List Int) : ∀ (p : List Int) (a : Int), p.length + s.length ≤ 1000000000 → 0 ≤ a → (∀ x ∈ s, 0 ≤ x) → a + s.sum ≤ 1000000000 → Ev (fun k => spec_piSum.l0 k a (p ++ s) ((p ++ s).length : Int) (p.length : Int)) (a + s.sum) := by
 induction s with
 | nil =>
  intro p a hp h0 hs hsum
  refine Ev.step (f := fun _ => some a) (fun k => ?_) (Ev.val (by simp))
  rw [spec_piSum.l0, if_neg (by simp)]
 | cons x s ih =>
  intro p a hp h0 hs hsum
  simp only [List.length_cons] at hp
  rw [List.sum_cons] at hsum
  have hx := hs x (by simp)
  have hs' : ∀ y ∈ s, 0 ≤ y := fun y hy => hs y (by simp [hy])
  have hsn := sum_nonneg s hs'
  have h := ih (p ++ [x]) (a + x) (by simp <;> omega) (by omega) hs' (by omega)
  refine Ev.step (f := fun k => spec_piSum.l0 k (a + x) ((p ++ [x]) ++ s) (((p ++ [x]) ++ s).length : Int) ((p ++ [x]).length : Int)) (fun k => ?_) (Ev.eq h (by rw [List.sum_cons]; omega))
  rw [spec_piSum.l0, if_pos (by simp <;> omega), if_pos (by omega), if_pos (by simp <;> omega), rd_app, w64 (n := a + x) (by omega) (by omega), w64 (by omega) (by omega)]
  simp
theorem spec_piSum.ev (l : List Int) (hl : l.length ≤ 1000000000) (h0 : ∀ x ∈ l, 0 ≤ x) (hs : l.sum ≤ 1000000000) : Ev (fun k => spec_piSum.f k l) l.sum := by
 have h := spec_piSum.ev_l l [] 0 (by simpa using hl) (by omega) h0 (by omega)
 exact Ev.eq h (by omega)
def BytesL (l : List Int) : Prop := l.length ≤ 1048576 ∧ ∀ x ∈ l, 0 ≤ x ∧ x ≤ 255
theorem rd_bytes {l : List Int} (h : BytesL l) {i : Int} (h0 : 0 ≤ i) (h1 : i < (l.length : Int)) : 0 ≤ rd l i ∧ rd l i ≤ 255 := by
 obtain ⟨n, rfl⟩ := Int.eq_ofNat_of_zero_le h0
 have hn : n < l.length := by omega
 rw [rd_eq l n hn]
 exact h.2 _ (List.getElem_mem hn)
theorem u64_range (n : Int) : 0 ≤ IntKind.u64.wrap n ∧ IntKind.u64.wrap n < 18446744073709551616 := by
 have : IntKind.u64.wrap n = n % 18446744073709551616 := by simp [IntKind.wrap, IntKind.bits, IntKind.signed]
 rw [this]; omega
theorem seed_byte (n : Int) : 0 ≤ wrap64 (Go.bits .and .u64 (IntKind.u64.wrap n / 1099511627776) 255) ∧ wrap64 (Go.bits .and .u64 (IntKind.u64.wrap n / 1099511627776) 255) ≤ 255 := by
 have h := u64_range n
 generalize IntKind.u64.wrap n = m at *
 have hk : ∀ n : Int, 0 ≤ n → n < 2 ^ 63 → IntKind.u64.wrap n = n := fun n h0 h1 => by
  have : IntKind.u64.wrap n = n % 18446744073709551616 := by simp [IntKind.wrap, IntKind.bits, IntKind.signed]
  rw [this]; omega
 have e : Go.bits .and .u64 (m / 1099511627776) 255 = (m / 1099511627776) % 256 := Go.bits_mask .u64 63 (by decide) hk 8 (by decide) _ (by omega) (by omega)
 rw [e, w64 (by omega) (by omega)]; omega
theorem cur_next {l : List Int} (h : BytesL l) {a : Int} (b : Int) (h0 : 0 ≤ a) (h1 : a ≤ 1000000000000) : ∃ r t, spec_l1Cur_next.f l a b = some (r, a + 1, t) ∧ 0 ≤ r ∧ r ≤ 255 := by
 have ew : wrap64 (a + 1) = a + 1 := w64 (by omega) (by omega)
 have hl := h.1
 unfold spec_l1Cur_next.f
 rw [ew]
 by_cases c : a < (l.length : Int)
 · have hb := rd_bytes h h0 c
   rw [if_pos c, if_pos h0, if_pos (by omega), w64 (n := rd l a) (by omega) (by omega)]
   exact ⟨_, _, rfl, hb.1, hb.2⟩
 rw [if_neg c, if_neg (by omega)]
 exact ⟨_, _, rfl, (seed_byte _).1, (seed_byte _).2⟩
theorem cur_pick {l : List Int} (h : BytesL l) {a : Int} (b : Int) {n : Int} (h0 : 0 ≤ a) (h1 : a ≤ 999999999999) (hn : 1 ≤ n) (hn' : n ≤ 65536) : ∃ r a' t, spec_l1Cur_pick.f l a b n = some (r, a', t) ∧ 0 ≤ r ∧ r < n ∧ a ≤ a' ∧ a' ≤ a + 2 := by
 unfold spec_l1Cur_pick.f
 by_cases c : n ≤ 1
 · rw [if_pos c]; exact ⟨_, _, _, rfl, by omega, by omega, by omega, by omega⟩
 rw [if_neg c]
 obtain ⟨r, t, e, hr0, hr1⟩ := cur_next h b h0 (by omega)
 rw [e, Option.bind_some]
 by_cases d : n > 200
 · obtain ⟨r', t', e', hr0', hr1'⟩ := cur_next h t (a := a + 1) (by omega) (by omega)
   have e1 : wrap64 (r * 256) = r * 256 := w64 (by omega) (by omega)
   have e2 : wrap64 (r * 256 + r') = r * 256 + r' := w64 (by omega) (by omega)
   simp only
   rw [if_pos d, e', Option.bind_some, if_neg (by omega)]
   simp only
   rw [e1, e2]
   refine ⟨_, _, _, rfl, Int.tmod_nonneg _ (by omega), Int.tmod_lt_of_pos _ (by omega), by omega, by omega⟩
 simp only
 rw [if_neg d, if_neg (by omega)]
 exact ⟨_, _, _, rfl, Int.tmod_nonneg _ hr0, Int.tmod_lt_of_pos _ (by omega), by omega, by omega⟩
theorem cur_among {l : List Int} (h : BytesL l) {a : Int} (b : Int) (m : List Int) (h0 : 0 ≤ a) (h1 : a ≤ 999999999999) (hn : 1 ≤ m.length) (hn' : m.length ≤ 65536) : ∃ r a' t, spec_l1Cur_among.f l a b m = some (r, a', t) ∧ r ∈ m ∧ a ≤ a' ∧ a' ≤ a + 2 := by
 unfold spec_l1Cur_among.f
 obtain ⟨r, a', t, e, hr0, hr1, ha, ha'⟩ := cur_pick h b (n := (m.length : Int)) h0 h1 (by omega) (by omega)
 rw [e, Option.bind_some]
 simp only
 rw [if_pos hr0, if_pos hr1]
 refine ⟨_, _, _, rfl, ?_, ha, ha'⟩
 obtain ⟨n, rfl⟩ := Int.eq_ofNat_of_zero_le hr0
 rw [rd_eq m n (by omega)]
 exact List.getElem_mem _
theorem cur_one {l : List Int} (h : BytesL l) {a : Int} (b : Int) {n : Int} (h0 : 0 ≤ a) (h1 : a ≤ 999999999999) (hn : 1 ≤ n) (hn' : n ≤ 65536) : ∃ r a' t, spec_l1Cur_one.f l a b n = some (r, a', t) ∧ a ≤ a' ∧ a' ≤ a + 2 := by
 unfold spec_l1Cur_one.f
 obtain ⟨r, a', t, e, hr0, hr1, ha, ha'⟩ := cur_pick h b h0 h1 hn hn'
 rw [e, Option.bind_some]
 exact ⟨_, _, _, rfl, ha, ha'⟩
theorem bytes_of {l : List Int} (h1 : l.length ≤ 1048576) (h : ∀ x ∈ l, (Lit.int .u8 x).wf = true) : BytesL l := ⟨h1, fun x hx => by
 have := h x hx
 simp [Lit.wf, IntKind.min, IntKind.max, IntKind.bits, IntKind.signed] at this
 omega⟩
/-- Numbers in order. -/
def rg (i d : Nat) : List Int := (List.range' i d).map fun (j : Nat) => (j : Int)
theorem rg_succ (i d : Nat) : rg i (d + 1) = (i : Int) :: rg (i + 1) d := by simp [rg, List.range'_succ]
theorem rg_snoc (i d : Nat) : rg i (d + 1) = rg i d ++ [((i + d : Nat) : Int)] := by simp [rg, List.range'_1_concat]
theorem rg_length (i d : Nat) : (rg i d).length = d := by simp [rg]
theorem mem_rg {i d : Nat} {x : Int} : x ∈ rg i d ↔ (i : Int) ≤ x ∧ x < (i : Int) + d := by
 unfold rg
 simp only [List.mem_map, List.mem_range'_1]
 constructor
 · rintro ⟨j, hj, rfl⟩; omega
 intro h; exact ⟨x.toNat, by omega, by omega⟩
theorem rg_rises : ∀ (d i : Nat), (rg i d).Pairwise (fun x y => x < y)
 | 0, i => by simp [rg]
 | d + 1, i => by
  rw [rg_succ, List.pairwise_cons]
  exact ⟨fun y hy => by have := (mem_rg.1 hy).1; omega, rg_rises d (i + 1)⟩
theorem laws_tSame.ev_l (s t : List Int) : ∀ (p : List Int), p.length + s.length ≤ 35184372088832 → s.length = t.length → ∀ q : List Int, q.length = p.length → Ev (fun k => laws_tSame.l0 k (p ++ s) (q ++ t) ((p ++ s).length : Int) (p.length : Int)) (decide (s = t)) := by
 induction s generalizing t with
 | nil =>
  intro p hp ht q hq
  obtain rfl : t = [] := List.eq_nil_of_length_eq_zero (by simpa using ht.symm)
  refine Ev.step (f := fun _ => some true) (fun k => ?_) (Ev.val (by simp))
  rw [laws_tSame.l0, if_neg (by simp)]
 | cons x s ih =>
  intro p hp ht q hq
  obtain _ | ⟨y, t⟩ := t
  · simp at ht
  simp only [List.length_cons] at ht hp
  have e1 : rd (p ++ x :: s) (p.length : Int) = x := rd_app p x s
  have e2 : rd (q ++ y :: t) (p.length : Int) = y := by rw [← hq]; exact rd_app q y t
  by_cases e : x = y
  · subst e
    have h := ih t (p ++ [x]) (by simp <;> omega) (by omega) (q ++ [x]) (by simp [hq])
    refine Ev.step (f := fun k => laws_tSame.l0 k ((p ++ [x]) ++ s) ((q ++ [x]) ++ t) (((p ++ [x]) ++ s).length : Int) ((p ++ [x]).length : Int)) (fun k => ?_) (Ev.eq h (by simp))
    rw [laws_tSame.l0, if_pos (by simp <;> omega), if_pos (by omega), if_pos (by simp <;> omega), if_pos (by simp <;> omega), e1, e2, if_pos rfl, w64 (by omega) (by omega)]
    simp
  refine Ev.step (f := fun _ => some false) (fun k => ?_) (Ev.val (by simp [e]))
  rw [laws_tSame.l0, if_pos (by simp <;> omega), if_pos (by omega), if_pos (by simp <;> omega), if_pos (by simp <;> omega), e1, e2, if_neg e]
theorem laws_tSame.ev (s t : List Int) (hl : s.length ≤ 35184372088832) : Ev (fun k => laws_tSame.f k s t) (decide (s = t)) := by
 unfold laws_tSame.f
 refine Ev.ite (fun h => ?_) (fun h => Ev.val ?_)
 · exact laws_tSame.ev_l s t [] (by simpa using hl) (by omega) [] rfl
 have : s ≠ t := by rintro rfl; exact h rfl
 simp [this]
theorem laws_tSum.ev_l (s : List Int) : ∀ (p : List Int) (a : Int), p.length + s.length ≤ 35184372088832 → 0 ≤ a → (∀ x ∈ s, 0 ≤ x) → a + s.sum ≤ 9223372036854775807 → Ev (fun k => laws_tSum.l0 k a (p ++ s) ((p ++ s).length : Int) (p.length : Int)) (a + s.sum) := by
 induction s with
 | nil =>
  intro p a hp h0 _ _
  refine Ev.step (f := fun _ => some a) (fun k => ?_) (Ev.val (by simp))
  rw [laws_tSum.l0, if_neg (by simp)]
 | cons x s ih =>
  intro p a hp h0 hx hs
  simp only [List.length_cons, List.sum_cons] at hp hs
  have e1 : rd (p ++ x :: s) (p.length : Int) = x := rd_app p x s
  have hx0 := hx x (by simp)
  have hsum : 0 ≤ s.sum := by
   have : ∀ l : List Int, (∀ y ∈ l, 0 ≤ y) → 0 ≤ l.sum := fun l => by
    induction l with
    | nil => intro _; simp
    | cons y l ih => intro h; have := ih (fun z hz => h z (by simp [hz])); have := h y (by simp); simp; omega
   exact this s (fun y hy => hx y (by simp [hy]))
  have h := ih (p ++ [x]) (a + x) (by simp; omega) (by omega) (fun y hy => hx y (by simp [hy])) (by omega)
  refine Ev.step (f := fun k => laws_tSum.l0 k (a + x) ((p ++ [x]) ++ s) (((p ++ [x]) ++ s).length : Int) ((p ++ [x]).length : Int)) (fun k => ?_) (Ev.eq h (by simp; omega))
  rw [laws_tSum.l0, if_pos (by simp <;> omega), if_pos (by omega), if_pos (by simp <;> omega), e1, w64 (n := a + x) (by omega) (by omega), w64 (by omega) (by omega)]
  simp
theorem laws_tSum.ev (s : List Int) (hl : s.length ≤ 35184372088832) (h0 : ∀ x ∈ s, 0 ≤ x) (hs : s.sum ≤ 9223372036854775807) : Ev (fun k => laws_tSum.f k s) s.sum := Ev.eq (laws_tSum.ev_l s [] 0 (by simpa using hl) (by omega) h0 (by omega)) (by simp)
theorem laws_tHas.ev_l (n : Int) (s : List Int) : ∀ (p : List Int), p.length + s.length ≤ 35184372088832 → Ev (fun k => laws_tHas.l0 k n (p ++ s) ((p ++ s).length : Int) (p.length : Int)) (decide (n ∈ s)) := by
 induction s with
 | nil =>
  intro p hp
  refine Ev.step (f := fun _ => some false) (fun k => ?_) (Ev.val (by simp))
  rw [laws_tHas.l0, if_neg (by simp)]
 | cons x s ih =>
  intro p hp
  simp only [List.length_cons] at hp
  have e1 : rd (p ++ x :: s) (p.length : Int) = x := rd_app p x s
  by_cases e : x = n
  · refine Ev.step (f := fun _ => some true) (fun k => ?_) (Ev.val (by simp [e]))
    rw [laws_tHas.l0, if_pos (by simp <;> omega), if_pos (by omega), if_pos (by simp <;> omega), e1, if_pos e]
  have h := ih (p ++ [x]) (by simp; omega)
  refine Ev.step (f := fun k => laws_tHas.l0 k n ((p ++ [x]) ++ s) (((p ++ [x]) ++ s).length : Int) ((p ++ [x]).length : Int)) (fun k => ?_) (Ev.eq h (by simp [Ne.symm e]))
  rw [laws_tHas.l0, if_pos (by simp <;> omega), if_pos (by omega), if_pos (by simp <;> omega), e1, if_neg e, w64 (by omega) (by omega)]
  simp
theorem laws_tHas.ev (s : List Int) (n : Int) (hl : s.length ≤ 35184372088832) : Ev (fun k => laws_tHas.f k s n) (decide (n ∈ s)) := Ev.eq (laws_tHas.ev_l n s [] (by simpa using hl)) (by simp)
theorem laws_tRises.ev_l (s : List Int) : ∀ (p : List Int) (x : Int), p.length + s.length + 1 ≤ 35184372088832 → Ev (fun k => laws_tRises.l0 k (p ++ x :: s) ((p.length + 1 : Nat) : Int)) (risesB (x :: s)) := by
 induction s with
 | nil =>
  intro p x hp
  refine Ev.step (f := fun _ => some true) (fun k => ?_) (Ev.val rfl)
  rw [laws_tRises.l0, if_neg (by simp)]
 | cons y s ih =>
  intro p x hp
  simp only [List.length_cons] at hp
  have e1 : rd (p ++ x :: y :: s) (p.length : Int) = x := rd_app p x (y :: s)
  have e2 : rd (p ++ x :: y :: s) ((p.length + 1 : Nat) : Int) = y := by
   have := rd_app (p ++ [x]) y s
   simpa using this
  have hw : wrap64 (((p.length + 1 : Nat) : Int) - 1) = (p.length : Int) := by rw [w64 (by omega) (by omega)]; omega
  by_cases c : x ≥ y
  · refine Ev.step (f := fun _ => some false) (fun k => ?_) (Ev.val (by rw [risesB, decide_eq_false (by omega)]; rfl))
    rw [laws_tRises.l0, if_pos (by simp <;> omega), hw, if_pos (by omega), if_pos (by simp <;> omega), if_pos (by omega), e1, e2, if_pos c]
  have h := ih (p ++ [x]) y (by simp; omega)
  refine Ev.step (f := fun k => laws_tRises.l0 k ((p ++ [x]) ++ y :: s) (((p ++ [x]).length + 1 : Nat) : Int)) (fun k => ?_) (Ev.eq h (by rw [show risesB (x :: y :: s) = (decide (x < y) && risesB (y :: s)) from rfl, decide_eq_true (by omega)]; rfl))
  rw [laws_tRises.l0, if_pos (by simp <;> omega), hw, if_pos (by omega), if_pos (by simp <;> omega), if_pos (by omega), e1, e2, if_neg c, w64 (by omega) (by omega)]
  simp [Int.add_assoc]
theorem laws_tRises.ev (s : List Int) (hl : s.length ≤ 35184372088832) : Ev (fun k => laws_tRises.f k s) (risesB s) := by
 unfold laws_tRises.f
 cases s with
 | nil =>
  refine Ev.step (f := fun _ => some true) (fun k => ?_) (Ev.val rfl)
  rw [laws_tRises.l0, if_neg (by simp)]
 | cons x s => exact laws_tRises.ev_l s [] x (by simpa using hl)
theorem big_no {l0 l1 : List Int} (h : ¬ laws_big.f l0 l1 = some true) : l0.length ≤ 1048576 ∧ l1.length ≤ 1048576 ∧ laws_big.f l0 l1 = some false := by
 unfold laws_big.f at h ⊢
 by_cases c : (l0.length : Int) > 1048576
 · rw [if_pos c] at h; exact absurd rfl h
 rw [if_neg c] at h ⊢
 rw [w64 (by omega) (by omega)] at h ⊢
 by_cases d : (l1.length : Int) > 1048576 - (l0.length : Int)
 · rw [decide_eq_true d] at h; exact absurd rfl h
 exact ⟨by omega, by omega, by rw [decide_eq_false d]⟩
/-! ### Bytes cut at a byte; decimal numbers read -/
theorem mn_eq (a b : Int) : mn a b = if b < a then b else a := rfl
def coinsB (l : List Int) : Bool := inB (l.length : Int) 1 8 && ((l.all fun x => inB x 1 1000) && risesB l)
theorem coins_facts {l : List Int} (h : coinsB l = true) : 1 ≤ l.length ∧ l.length ≤ 8 ∧ (∀ x ∈ l, 1 ≤ x ∧ x ≤ 1000) ∧ risesB l = true := by
 unfold coinsB inB at h
 simp only [Bool.and_eq_true, decide_eq_true_eq, List.all_eq_true] at h
 exact ⟨by omega, by omega, h.2.1, h.2.2⟩
theorem impl_AreCoins.ev (l : List Int) (hl : l.length ≤ 9223372036854775806) : Ev (fun k => impl_AreCoins.f k l) (coinsB l) := by
 unfold impl_AreCoins.f
 refine Ev.bindc (impl_within.valB _ 1 8) ?_
 unfold coinsB
 cases c : inB (l.length : Int) 1 8 with
 | false => exact Ev.neg (by decide) (Ev.val rfl)
 | true =>
  refine Ev.pos rfl (Ev.bindc (impl_areWithin.val l 1 1000) ?_)
  have e : (l.all fun x => decide (1 ≤ x) && decide (x ≤ 1000)) = l.all fun x => inB x 1 1000 := rfl
  rw [e]
  cases d : (l.all fun x => inB x 1 1000) with
  | false => exact Ev.neg (by decide) (Ev.val rfl)
  | true => exact Ev.pos rfl (Ev.bind (impl_rises.ev l hl) (Ev.val rfl))
theorem spec_cnGood.ev (l : List Int) (hl : l.length ≤ 9223372036854775806) : Ev (fun k => spec_cnGood.f k l) (coinsB l) := by
 unfold spec_cnGood.f
 refine Ev.bindc (spec_l1In.valB _ 1 8) ?_
 unfold coinsB
 cases c : inB (l.length : Int) 1 8 with
 | false => exact Ev.neg (by decide) (Ev.val rfl)
 | true => exact Ev.pos rfl (Ev.bind (spec_l1Rising.ev l 1 1000 hl) (Ev.val rfl))
theorem impl_isAmount.ev (l : List Int) (s : Int) (hl : l.length ≤ 9223372036854775806) : Ev (fun k => impl_isAmount.f k l s) (coinsB l && inB s 0 20000) := by
 unfold impl_isAmount.f
 refine Ev.bind (impl_AreCoins.ev l hl) ?_
 cases c : coinsB l with
 | false => exact Ev.neg (by decide) (Ev.val rfl)
 | true => exact Ev.pos rfl (Ev.bindc (impl_within.valB s 0 20000) (Ev.val rfl))
theorem spec_cnAsked.ev (l : List Int) (s : Int) (hl : l.length ≤ 9223372036854775806) : Ev (fun k => spec_cnAsked.f k l s) (coinsB l && inB s 0 20000) := by
 unfold spec_cnAsked.f
 refine Ev.bind (spec_cnGood.ev l hl) ?_
 cases c : coinsB l with
 | false => exact Ev.neg (by decide) (Ev.val rfl)
 | true => exact Ev.pos rfl (Ev.bindc (spec_l1In.valB s 0 20000) (Ev.val rfl))
/-! ### The least number with a property -/
theorem least_ex (P : Nat → Prop) : ∀ n, P n → ∃ j, P j ∧ ∀ i, i < j → ¬ P i := by
 intro n
 induction n using Nat.strongRecOn with
 | ind n ih =>
  intro h
  by_cases c : ∃ i, i < n ∧ P i
  · obtain ⟨i, h1, h2⟩ := c; exact ih i h1 h2
  exact ⟨n, h, fun i hi hp => c ⟨i, hi, hp⟩⟩
open Classical in
/-- The least number with a property, or z. -/
noncomputable def lst (P : Nat → Prop) (z : Int) : Int := if h : ∃ j, P j ∧ ∀ i, i < j → ¬ P i then ((Classical.choose h : Nat) : Int) else z
theorem lst_some {P : Nat → Prop} {z : Int} {j : Nat} (h : P j) (h' : ∀ i, i < j → ¬ P i) : lst P z = j := by
 have hex : ∃ j, P j ∧ ∀ i, i < j → ¬ P i := ⟨j, h, h'⟩
 unfold lst
 rw [dif_pos hex]
 have hs := Classical.choose_spec hex
 generalize Classical.choose hex = q at hs
 rcases Nat.lt_trichotomy q j with c | c | c
 · exact absurd hs.1 (h' q c)
 · rw [c]
 exact absurd h (hs.2 j c)
theorem lst_none {P : Nat → Prop} {z : Int} (h : ∀ j, ¬ P j) : lst P z = z := by
 unfold lst
 rw [dif_neg (fun ⟨j, hj, _⟩ => h j hj)]
theorem lst_cases (P : Nat → Prop) (z : Int) : (∃ j : Nat, P j ∧ (∀ i, i < j → ¬ P i) ∧ lst P z = j) ∨ ((∀ j, ¬ P j) ∧ lst P z = z) := by
 by_cases c : ∃ j, P j
 · obtain ⟨n, hn⟩ := c
   obtain ⟨j, h1, h2⟩ := least_ex P n hn
   exact .inl ⟨j, h1, h2, lst_some h1 h2⟩
 exact .inr ⟨fun j h => c ⟨j, h⟩, lst_none (fun j h => c ⟨j, h⟩)⟩
theorem lst_congr {P Q : Nat → Prop} {z : Int} (h : ∀ j, P j ↔ Q j) : lst P z = lst Q z := by rw [show P = Q from funext fun j => propext (h j)]
/-- 'a' is the sum of n of the coins. -/
def PayN (l : List Int) : Nat → Int → Prop
 | 0, a => a = 0
 | n + 1, a => ∃ c ∈ l, PayN l n (a - c)
theorem payN_ge {l : List Int} (h1 : ∀ x ∈ l, 1 ≤ x) : ∀ (n : Nat) (a : Int), PayN l n a → (n : Int) ≤ a
 | 0, a, h => by rw [show a = 0 from h]; omega
 | n + 1, a, ⟨c, hc, h⟩ => by have := payN_ge h1 n _ h; have := h1 c hc; omega
/-- The same by a coin of some of them last. -/
def PayV (l q : List Int) (v : Int) (n : Nat) : Prop := ∃ c ∈ q, ∃ n', n = n' + 1 ∧ PayN l n' (v - c)
theorem payV_all {l : List Int} {v : Int} (hv : v ≠ 0) (n : Nat) : PayV l l v n ↔ PayN l n v := by
 constructor
 · rintro ⟨c, hc, n', rfl, h⟩; exact ⟨c, hc, h⟩
 intro h
 cases n with
 | zero => exact absurd h hv
 | succ n => obtain ⟨c, hc, h⟩ := h; exact ⟨c, hc, n, rfl, h⟩
theorem payV_snoc {l q : List Int} {c v : Int} (n : Nat) : PayV l (q ++ [c]) v n ↔ PayV l q v n ∨ ∃ n', n = n' + 1 ∧ PayN l n' (v - c) := by
 constructor
 · rintro ⟨d, hd, h⟩
   rcases List.mem_append.1 hd with e | e
   · exact .inl ⟨d, e, h⟩
   rw [List.mem_singleton.1 e] at h; exact .inr h
 rintro (⟨d, hd, h⟩ | h)
 · exact ⟨d, by simp [hd], h⟩
 exact ⟨c, by simp, h⟩
/-- The least number of coins, or z. -/
noncomputable def fewF (l : List Int) (z a : Int) : Int := lst (fun n => PayN l n a) z
noncomputable def fewV (l q : List Int) (z v : Int) : Int := lst (PayV l q v) z
theorem fewV_all {l : List Int} {z v : Int} (hv : v ≠ 0) : fewV l l z v = fewF l z v := lst_congr (payV_all hv)
theorem fewV_nil (l : List Int) (z v : Int) : fewV l [] z v = z := lst_none (fun j ⟨c, hc, _⟩ => by cases hc)
theorem fewF_zero (l : List Int) (z : Int) : fewF l z 0 = 0 := lst_some (j := 0) rfl (fun i hi => absurd hi (by omega))
/-- What a further coin does to the least number. -/
theorem fewV_snoc (l q : List Int) (z v c : Int) : ((fewV l (q ++ [c]) z v = z ∧ fewV l q z v = z ∧ fewF l z (v - c) = z ∧ (∀ n, ¬ PayV l q v n) ∧ (∀ n, ¬ PayN l n (v - c))) ∨ (∃ p : Nat, fewV l (q ++ [c]) z v = p ∧ fewV l q z v = p ∧ fewF l z (v - c) = z ∧ PayV l q v p ∧ (∀ n, ¬ PayN l n (v - c))) ∨ (∃ r : Nat, fewV l (q ++ [c]) z v = (r : Int) + 1 ∧ fewV l q z v = z ∧ fewF l z (v - c) = r ∧ (∀ n, ¬ PayV l q v n) ∧ PayN l r (v - c)) ∨ (∃ p r : Nat, fewV l (q ++ [c]) z v = (if (r : Int) + 1 < p then (r : Int) + 1 else p) ∧ fewV l q z v = p ∧ fewF l z (v - c) = r ∧ PayV l q v p ∧ PayN l r (v - c))) := by
 have e : fewV l (q ++ [c]) z v = lst (fun n => PayV l q v n ∨ ∃ n', n = n' + 1 ∧ PayN l n' (v - c)) z := lst_congr payV_snoc
 rcases lst_cases (PayV l q v) z with ⟨p, hp, hp', hpe⟩ | ⟨hp, hpe⟩ <;> rcases lst_cases (fun n => PayN l n (v - c)) z with ⟨r, hr, hr', hre⟩ | ⟨hr, hre⟩
 · refine .inr (.inr (.inr ⟨p, r, ?_, hpe, hre, hp, hr⟩))
   rw [e]
   by_cases d : r + 1 < p
   · rw [if_pos (by omega), lst_some (j := r + 1) (.inr ⟨r, rfl, hr⟩) (fun i hi h => ?_)]
     · omega
     rcases h with h | ⟨n', rfl, h⟩
     · exact hp' i (by omega) h
     exact hr' n' (by omega) h
   rw [if_neg (by omega), lst_some (j := p) (.inl hp) (fun i hi h => ?_)]
   rcases h with h | ⟨n', rfl, h⟩
   · exact hp' i hi h
   exact hr' n' (by omega) h
 · refine .inr (.inl ⟨p, ?_, hpe, hre, hp, hr⟩)
   rw [e, lst_some (j := p) (.inl hp) (fun i hi h => ?_)]
   rcases h with h | ⟨n', rfl, h⟩
   · exact hp' i hi h
   exact hr n' h
 · refine .inr (.inr (.inl ⟨r, ?_, hpe, hre, hp, hr⟩))
   rw [e, lst_some (j := r + 1) (.inr ⟨r, rfl, hr⟩) (fun i hi h => ?_)]
   · omega
   rcases h with h | ⟨n', rfl, h⟩
   · exact hp i h
   exact hr' n' (by omega) h
 refine .inl ⟨?_, hpe, hre, hp, hr⟩
 rw [e, lst_none (fun j h => ?_)]
 rcases h with h | ⟨n', rfl, h⟩
 · exact hp j h
 exact hr n' h
theorem payV_le {l q : List Int} (h1 : ∀ x ∈ l, 1 ≤ x) (hq : ∀ x ∈ q, x ∈ l) {v : Int} {n : Nat} (h : PayV l q v n) : (n : Int) ≤ v := by
 obtain ⟨c, hc, n', rfl, h⟩ := h
 have := payN_ge h1 n' _ h; have := h1 c (hq c hc); omega
/-- The table ahead of a value. -/
noncomputable def fewT (l : List Int) (z v x a : Int) : Int := if a < v then fewF l z a else if a = v then x else 0
theorem impl_fewStamps.ev_1 {R : List Int} (l : List Int) (hl : l.length ≤ 1000) (h1 : ∀ x ∈ l, 1 ≤ x ∧ x ≤ 1000000) (m : Int) (hm : 0 ≤ m ∧ m ≤ 10000000) (v : Int) (hv : 1 ≤ v) (hvm : v ≤ m) (next : Ev (fun k => impl_fewStamps.l0 k l m (tab (m + 1).toNat (fewT l (m + 1) v (fewF l (m + 1) v))) (v + 1)) R) : ∀ (s q : List Int), q ++ s = l → Ev (fun k => impl_fewStamps.l1 k l m (tab (m + 1).toNat (fewT l (m + 1) v (fewV l q (m + 1) v))) v l (l.length : Int) (q.length : Int)) R
 | [], q, e => by
  rw [List.append_nil] at e
  subst e
  refine Ev.step (fun k => ?_) next
  rw [impl_fewStamps.l1, if_neg (by omega), w64 (n := v + 1) (by omega) (by omega), fewV_all (by omega)]
 | c :: s, q, e => by
  have hll : l.length = q.length + (s.length + 1) := by rw [← e]; simp
  have hc := h1 c (by rw [← e]; simp)
  have hl1 : ∀ x ∈ l, 1 ≤ x := fun x hx => (h1 x hx).1
  have hq : ∀ x ∈ q, x ∈ l := fun x hx => by rw [← e]; simp [hx]
  have ew : wrap64 ((q.length : Int) + 1) = ((q ++ [c]).length : Int) := by rw [w64 (by omega) (by omega)]; simp
  have erd : rd l (q.length : Int) = c := by rw [← e]; exact rd_app q c s
  have ih := impl_fewStamps.ev_1 l hl h1 m hm v hv hvm next s (q ++ [c]) (by rw [← e]; simp)
  have hN : ((m + 1).toNat : Int) = m + 1 := by omega
  by_cases d : c ≤ v
  · refine Ev.step (fun k => ?_) ih
    have e1 : rd (tab (m + 1).toNat (fewT l (m + 1) v (fewV l q (m + 1) v))) v = fewV l q (m + 1) v := by
     rw [rd_tab _ _ _ (by omega) (by omega)]; unfold fewT; rw [if_neg (by omega), if_pos rfl]
    have e2 : rd (tab (m + 1).toNat (fewT l (m + 1) v (fewV l q (m + 1) v))) (v - c) = fewF l (m + 1) (v - c) := by
     rw [rd_tab _ _ _ (by omega) (by omega)]; unfold fewT; rw [if_pos (by omega)]
    have key : mn (fewV l q (m + 1) v) (wrap64 (fewF l (m + 1) (v - c) + 1)) = fewV l (q ++ [c]) (m + 1) v := by
     rcases fewV_snoc l q (m + 1) v c with ⟨a1, a2, a3, _, _⟩ | ⟨p, a1, a2, a3, a4, _⟩ | ⟨r, a1, a2, a3, _, a5⟩ | ⟨p, r, a1, a2, a3, a4, a5⟩
     · rw [a1, a2, a3, w64 (by omega) (by omega)]; unfold mn; rw [if_neg (by omega)]
     · have := payV_le hl1 hq a4
       rw [a1, a2, a3, w64 (by omega) (by omega)]; unfold mn; rw [if_neg (by omega)]
     · have := payN_ge hl1 r _ a5
       rw [a1, a2, a3, w64 (by omega) (by omega)]; unfold mn; rw [if_pos (by omega)]
     have := payN_ge hl1 r _ a5
     have := payV_le hl1 hq a4
     rw [a1, a2, a3, w64 (by omega) (by omega)]; rfl
    rw [impl_fewStamps.l1, if_pos (by omega), if_pos (by omega), if_pos (by omega), erd, if_pos d, if_pos (by omega), if_pos (by rw [tab_length]; omega), w64 (n := v - c) (by omega) (by omega), if_pos (by omega), if_pos (by rw [tab_length]; omega), e1, e2, key, ew, tab_set _ _ _ _ (by omega)]
    congr 1
    refine tab_congr _ _ _ (fun a _ _ => ?_)
    unfold fewT
    by_cases q1 : a = v
    · subst q1; rw [if_pos rfl, if_neg (by omega), if_pos rfl]
    rw [if_neg q1]
    by_cases q2 : a < v
    · rw [if_pos q2, if_pos q2]
    rw [if_neg q2, if_neg q2, if_neg q1, if_neg q1]
  refine Ev.step (fun k => ?_) ih
  have hno : ∀ n, ¬ PayN l n (v - c) := fun n h => by have := payN_ge hl1 n _ h; omega
  have e3 : fewV l (q ++ [c]) (m + 1) v = fewV l q (m + 1) v := lst_congr (fun n => by
   rw [payV_snoc]
   constructor
   · rintro (h | ⟨n', _, h⟩)
     · exact h
     exact absurd h (hno n')
   exact .inl)
  rw [impl_fewStamps.l1, if_pos (by omega), if_pos (by omega), if_pos (by omega), erd, if_neg d, ew, e3]
theorem impl_fewStamps.ev_0 (l : List Int) (hl : l.length ≤ 1000) (h1 : ∀ x ∈ l, 1 ≤ x ∧ x ≤ 1000000) (m : Int) (hm : 0 ≤ m ∧ m ≤ 10000000) : ∀ (d : Nat) (v : Int), 1 ≤ v → v + d = m + 1 → Ev (fun k => impl_fewStamps.l0 k l m (tab (m + 1).toNat (fewT l (m + 1) v 0)) v) (tab (m + 1).toNat (fewF l (m + 1)))
 | 0, v, hv, e => by
  refine Ev.step (f := fun _ => some (tab (m + 1).toNat (fewT l (m + 1) v 0))) (fun k => by rw [impl_fewStamps.l0, if_neg (by omega)]) (Ev.val ?_)
  refine tab_congr _ _ _ (fun a _ _ => ?_)
  unfold fewT; rw [if_pos (by omega)]
 | d + 1, v, hv, e => by
  have ih := impl_fewStamps.ev_0 l hl h1 m hm d (v + 1) (by omega) (by omega)
  have en : tab (m + 1).toNat (fewT l (m + 1) v (fewF l (m + 1) v)) = tab (m + 1).toNat (fewT l (m + 1) (v + 1) 0) := by
   refine tab_congr _ _ _ (fun a _ _ => ?_)
   unfold fewT
   by_cases q : a = v
   · subst q; rw [if_neg (by omega), if_pos rfl, if_pos (by omega)]
   by_cases q2 : a < v
   · rw [if_pos q2, if_pos (by omega)]
   rw [if_neg q2, if_neg q, if_neg (by omega)]
   split <;> rfl
  rw [← en] at ih
  have h := impl_fewStamps.ev_1 l hl h1 m hm v hv (by omega) ih l [] rfl
  refine Ev.step (fun k => ?_) h
  rw [impl_fewStamps.l0, if_pos (by omega), if_pos (by omega), if_pos (by rw [tab_length]; omega), w64 (n := m + 1) (by omega) (by omega), tab_set _ _ _ _ (by omega), fewV_nil]
  congr 1
  refine tab_congr _ _ _ (fun a _ _ => ?_)
  unfold fewT
  by_cases q : a = v
  · subst q; rw [if_pos rfl, if_neg (by omega), if_pos rfl]
  rw [if_neg q]
  by_cases q2 : a < v
  · rw [if_pos q2, if_pos q2]
  rw [if_neg q2, if_neg q2, if_neg q, if_neg q]
theorem impl_fewStamps.ev (l : List Int) (hl : l.length ≤ 1000) (h1 : ∀ x ∈ l, 1 ≤ x ∧ x ≤ 1000000) (m : Int) (hm : 0 ≤ m ∧ m ≤ 10000000) : Ev (fun k => impl_fewStamps.f k l m) (tab (m + 1).toNat (fewF l (m + 1))) := by
 unfold impl_fewStamps.f
 rw [w64 (n := m + 1) (by omega) (by omega)]
 refine Ev.pos (by omega) (Ev.pos (by omega) ?_)
 have h := impl_fewStamps.ev_0 l hl h1 m hm m.toNat 1 (by omega) (by omega)
 refine Ev.congr (fun k => ?_) h
 congr 1
 apply List.ext_getElem
 · simp [tab]
 intro i h2 h3
 simp only [tab, List.getElem_replicate, List.getElem_map, List.getElem_range]
 unfold fewT
 by_cases q : (i : Int) < 1
 · rw [if_pos q, show (i : Int) = 0 by omega, fewF_zero]
 rw [if_neg q]; split <;> rfl
theorem spec_cnFew.ev_1 {R : List Int} (l : List Int) (hl : l.length ≤ 1000) (h1 : ∀ x ∈ l, 1 ≤ x ∧ x ≤ 1000000) (m : Int) (hm : 0 ≤ m ∧ m ≤ 10000000) (v : Int) (hv : 1 ≤ v) (hvm : v ≤ m) (next : Ev (fun k => spec_cnFew.l0 k l m (tab (m + 1).toNat (fewT l (-1) v (fewF l (-1) v))) (v + 1)) R) : ∀ (s q : List Int), q ++ s = l → Ev (fun k => spec_cnFew.l1 k l m (tab (m + 1).toNat (fewT l (-1) v (fewV l q (-1) v))) v l (l.length : Int) (q.length : Int)) R
 | [], q, e => by
  rw [List.append_nil] at e
  subst e
  refine Ev.step (fun k => ?_) next
  rw [spec_cnFew.l1, if_neg (by omega), w64 (n := v + 1) (by omega) (by omega), fewV_all (by omega)]
 | c :: s, q, e => by
  have hll : l.length = q.length + (s.length + 1) := by rw [← e]; simp
  have hc := h1 c (by rw [← e]; simp)
  have hl1 : ∀ x ∈ l, 1 ≤ x := fun x hx => (h1 x hx).1
  have hq : ∀ x ∈ q, x ∈ l := fun x hx => by rw [← e]; simp [hx]
  have ew : wrap64 ((q.length : Int) + 1) = ((q ++ [c]).length : Int) := by rw [w64 (by omega) (by omega)]; simp
  have erd : rd l (q.length : Int) = c := by rw [← e]; exact rd_app q c s
  have ih := spec_cnFew.ev_1 l hl h1 m hm v hv hvm next s (q ++ [c]) (by rw [← e]; simp)
  have hN : ((m + 1).toNat : Int) = m + 1 := by omega
  have put : ∀ x, x = fewV l (q ++ [c]) (-1) v → (tab (m + 1).toNat (fewT l (-1) v (fewV l q (-1) v))).set v.toNat x = tab (m + 1).toNat (fewT l (-1) v (fewV l (q ++ [c]) (-1) v)) := by
   intro x hx
   rw [tab_set _ _ _ _ (by omega)]
   refine tab_congr _ _ _ (fun a _ _ => ?_)
   unfold fewT
   by_cases q1 : a = v
   · subst q1; rw [if_pos rfl, if_neg (by omega), if_pos rfl, hx]
   rw [if_neg q1]
   by_cases q2 : a < v
   · rw [if_pos q2, if_pos q2]
   rw [if_neg q2, if_neg q2, if_neg q1, if_neg q1]
  by_cases d : c ≤ v
  · have e1 : rd (tab (m + 1).toNat (fewT l (-1) v (fewV l q (-1) v))) v = fewV l q (-1) v := by
     rw [rd_tab _ _ _ (by omega) (by omega)]; unfold fewT; rw [if_neg (by omega), if_pos rfl]
    have e2 : rd (tab (m + 1).toNat (fewT l (-1) v (fewV l q (-1) v))) (v - c) = fewF l (-1) (v - c) := by
     rw [rd_tab _ _ _ (by omega) (by omega)]; unfold fewT; rw [if_pos (by omega)]
    have hL : ((tab (m + 1).toNat (fewT l (-1) v (fewV l q (-1) v))).length : Int) = m + 1 := by rw [tab_length]; omega
    refine Ev.step (fun k => ?_) ih
    rw [spec_cnFew.l1, if_pos (by omega), if_pos (by omega), if_pos (by omega), erd, if_pos d, w64 (n := v - c) (by omega) (by omega), if_pos (by omega), if_pos (by omega), e1, e2]
    rcases fewV_snoc l q (-1) v c with ⟨a1, a2, a3, _, _⟩ | ⟨p, a1, a2, a3, a4, _⟩ | ⟨r, a1, a2, a3, _, a5⟩ | ⟨p, r, a1, a2, a3, a4, a5⟩
    · rw [a3, if_neg (by omega), ew, a1, a2]
    · rw [a3, if_neg (by omega), ew, a1, a2]
    · have := payN_ge hl1 r _ a5
      rw [a3, if_pos (by omega), if_pos (by omega), if_pos (by omega), if_pos (show fewV l q (-1) v < 0 by omega), w64 (n := (r : Int) + 1) (by omega) (by omega), ew, put _ a1.symm]
    have := payN_ge hl1 r _ a5
    have := payV_le hl1 hq a4
    rw [a3, if_pos (by omega), if_pos (by omega), if_pos (by omega), w64 (n := (r : Int) + 1) (by omega) (by omega), ew]
    by_cases z : (r : Int) + 1 < p
    · rw [if_pos z] at a1
      rw [if_neg (show ¬ fewV l q (-1) v < 0 by omega), if_pos (show (r : Int) + 1 < fewV l q (-1) v by omega), put _ a1.symm]
    rw [if_neg z] at a1
    rw [if_neg (show ¬ fewV l q (-1) v < 0 by omega), if_neg (show ¬ (r : Int) + 1 < fewV l q (-1) v by omega), a1, a2]
  refine Ev.step (fun k => ?_) ih
  have hno : ∀ n, ¬ PayN l n (v - c) := fun n h => by have := payN_ge hl1 n _ h; omega
  have e3 : fewV l (q ++ [c]) (-1) v = fewV l q (-1) v := lst_congr (fun n => by
   rw [payV_snoc]
   constructor
   · rintro (h | ⟨n', _, h⟩)
     · exact h
     exact absurd h (hno n')
   exact .inl)
  rw [spec_cnFew.l1, if_pos (by omega), if_pos (by omega), if_pos (by omega), erd, if_neg d, ew, e3]
theorem spec_cnFew.ev_0 (l : List Int) (hl : l.length ≤ 1000) (h1 : ∀ x ∈ l, 1 ≤ x ∧ x ≤ 1000000) (m : Int) (hm : 0 ≤ m ∧ m ≤ 10000000) : ∀ (d : Nat) (v : Int), 1 ≤ v → v + d = m + 1 → Ev (fun k => spec_cnFew.l0 k l m (tab (m + 1).toNat (fewT l (-1) v 0)) v) (tab (m + 1).toNat (fewF l (-1)))
 | 0, v, hv, e => by
  refine Ev.step (f := fun _ => some (tab (m + 1).toNat (fewT l (-1) v 0))) (fun k => by rw [spec_cnFew.l0, if_neg (by omega)]) (Ev.val ?_)
  refine tab_congr _ _ _ (fun a _ _ => ?_)
  unfold fewT; rw [if_pos (by omega)]
 | d + 1, v, hv, e => by
  have ih := spec_cnFew.ev_0 l hl h1 m hm d (v + 1) (by omega) (by omega)
  have en : tab (m + 1).toNat (fewT l (-1) v (fewF l (-1) v)) = tab (m + 1).toNat (fewT l (-1) (v + 1) 0) := by
   refine tab_congr _ _ _ (fun a _ _ => ?_)
   unfold fewT
   by_cases q : a = v
   · subst q; rw [if_neg (by omega), if_pos rfl, if_pos (by omega)]
   by_cases q2 : a < v
   · rw [if_pos q2, if_pos (by omega)]
   rw [if_neg q2, if_neg q, if_neg (by omega)]
   split <;> rfl
  rw [← en] at ih
  have h := spec_cnFew.ev_1 l hl h1 m hm v hv (by omega) ih l [] rfl
  refine Ev.step (fun k => ?_) h
  rw [spec_cnFew.l0, if_pos (by omega), if_pos (by omega), if_pos (by rw [tab_length]; omega), tab_set _ _ _ _ (by omega), fewV_nil]
  congr 1
  refine tab_congr _ _ _ (fun a _ _ => ?_)
  unfold fewT
  by_cases q : a = v
  · subst q; rw [if_pos rfl, if_neg (by omega), if_pos rfl]
  rw [if_neg q]
  by_cases q2 : a < v
  · rw [if_pos q2, if_pos q2]
  rw [if_neg q2, if_neg q2, if_neg q, if_neg q]
theorem spec_cnFew.ev (l : List Int) (hl : l.length ≤ 1000) (h1 : ∀ x ∈ l, 1 ≤ x ∧ x ≤ 1000000) (m : Int) (hm : 0 ≤ m ∧ m ≤ 10000000) : Ev (fun k => spec_cnFew.f k l m) (tab (m + 1).toNat (fewF l (-1))) := by
 unfold spec_cnFew.f
 rw [w64 (n := m + 1) (by omega) (by omega)]
 refine Ev.pos (by omega) (Ev.pos (by omega) ?_)
 have h := spec_cnFew.ev_0 l hl h1 m hm m.toNat 1 (by omega) (by omega)
 refine Ev.congr (fun k => ?_) h
 congr 1
 apply List.ext_getElem
 · simp [tab]
 intro i h2 h3
 simp only [tab, List.getElem_replicate, List.getElem_map, List.getElem_range]
 unfold fewT
 by_cases q : (i : Int) < 1
 · rw [if_pos q, show (i : Int) = 0 by omega, fewF_zero]
 rw [if_neg q]; split <;> rfl
theorem fewF_nil (z a : Int) (ha : a ≠ 0) : fewF [] z a = z := lst_none (fun j h => by
 cases j with
 | zero => exact ha h
 | succ j => obtain ⟨c, hc, _⟩ := h; cases hc)
theorem spec_cnFewer.ev_0 (m : Int) (hm : 0 ≤ m ∧ m ≤ 10000000) : ∀ (d : Nat) (v : Int), 1 ≤ v → v + d = m + 1 → Ev (fun k => spec_cnFewer.l0 k m (tab (m + 1).toNat fun a => if 1 ≤ a ∧ a < v then -1 else 0) v) (tab (m + 1).toNat (fewF [] (-1)))
 | 0, v, hv, e => by
  refine Ev.step (f := fun _ => some (tab (m + 1).toNat fun a => if 1 ≤ a ∧ a < v then -1 else 0)) (fun k => by rw [spec_cnFewer.l0, if_neg (by omega)]) (Ev.val ?_)
  refine tab_congr _ _ _ (fun a h0 h1 => ?_)
  by_cases q : a = 0
  · subst q; rw [if_neg (by omega), fewF_zero]
  rw [if_pos (by omega), fewF_nil _ _ q]
 | d + 1, v, hv, e => by
  have ih := spec_cnFewer.ev_0 m hm d (v + 1) (by omega) (by omega)
  refine Ev.step (fun k => ?_) ih
  rw [spec_cnFewer.l0, if_pos (by omega), if_pos (by omega), if_pos (by rw [tab_length]; omega), tab_set _ _ _ _ (by omega), w64 (n := v + 1) (by omega) (by omega)]
  congr 1
  refine tab_congr _ _ _ (fun a _ _ => ?_)
  by_cases q : a = v
  · rw [if_pos q, if_pos (by omega)]
  rw [if_neg q]
  by_cases q2 : 1 ≤ a ∧ a < v
  · rw [if_pos q2, if_pos (by omega)]
  rw [if_neg q2, if_neg (by omega)]
theorem spec_cnFewer.ev (l : List Int) (hl : l.length ≤ 1000) (h1 : ∀ x ∈ l, 1 ≤ x ∧ x ≤ 1000000) (m : Int) (hm : 0 ≤ m ∧ m ≤ 10000000) : Ev (fun k => spec_cnFewer.f k l m) (tab (m + 1).toNat (fewF l (-1))) := by
 unfold spec_cnFewer.f
 refine Ev.ite (fun c => Ev.bind (spec_cnFew.ev l hl h1 m hm) (Ev.val rfl)) (fun c => ?_)
 obtain rfl : l = [] := List.eq_nil_of_length_eq_zero (by omega)
 rw [w64 (n := m + 1) (by omega) (by omega)]
 refine Ev.pos (by omega) (Ev.pos (by omega) ?_)
 have h := spec_cnFewer.ev_0 m hm m.toNat 1 (by omega) (by omega)
 refine Ev.congr (fun k => ?_) h
 congr 1
 apply List.ext_getElem
 · simp [tab]
 intro i h2 h3
 simp only [tab, List.getElem_replicate, List.getElem_map, List.getElem_range]
 rw [if_neg (by omega)]
/-- The least number of coins for an amount, if there is change. -/
noncomputable def fewC (l : List Int) (a : Int) : Int × Bool := if (coinsB l && inB a 0 20000) = true ∧ 0 ≤ fewF l (-1) a then (fewF l (-1) a, true) else (0, false)
theorem fewF_cases {l : List Int} (h1 : ∀ x ∈ l, 1 ≤ x) (a : Int) : (∃ p : Nat, PayN l p a ∧ (∀ i, i < p → ¬ PayN l i a) ∧ (p : Int) ≤ a ∧ ∀ z, fewF l z a = p) ∨ ((∀ n, ¬ PayN l n a) ∧ ∀ z, fewF l z a = z) := by
 rcases lst_cases (fun n => PayN l n a) 0 with ⟨p, h, h', _⟩ | ⟨h, _⟩
 · exact .inl ⟨p, h, h', payN_ge h1 p a h, fun z => lst_some h h'⟩
 exact .inr ⟨h, fun z => lst_none h⟩
theorem impl_FewestCoins.ev (l : List Int) (a : Int) (hl : l.length ≤ 9223372036854775806) : Ev (fun k => impl_FewestCoins.f k l a) (fewC l a) := by
 unfold impl_FewestCoins.f
 refine Ev.bind (impl_isAmount.ev l a hl) (Ev.ite (fun c => ?_) (fun c => Ev.val (by rw [fewC, if_neg (fun h => c h.1)])))
 have hc : coinsB l = true ∧ 0 ≤ a ∧ a ≤ 20000 := by
  unfold inB at c
  simp only [Bool.and_eq_true, decide_eq_true_eq] at c
  exact ⟨c.1, c.2.1, c.2.2⟩
 obtain ⟨g, h0, h2⟩ := hc
 have hf := coins_facts g
 have h1 : ∀ x ∈ l, 1 ≤ x := fun x hx => (hf.2.2.1 x hx).1
 refine Ev.bind (impl_fewStamps.ev l (by omega) (fun x hx => by have := hf.2.2.1 x hx; omega) a (by omega)) (Ev.pos h0 (Ev.pos (by rw [tab_length]; omega) ?_))
 rw [rd_tab _ _ _ h0 (by omega), fewC]
 rcases fewF_cases h1 a with ⟨p, _, _, hp, e⟩ | ⟨_, e⟩
 · rw [e, e]
   exact Ev.neg (by omega) (Ev.val (by rw [if_pos ⟨c, by omega⟩]))
 rw [e, e]
 exact Ev.pos (by omega) (Ev.val (by rw [if_neg (fun h => by omega)]))
theorem impl_gcd.ev_l : ∀ (b a : Nat), Ev (fun k => impl_gcd.l0 k (a : Int) (b : Int)) ((Nat.gcd a b : Nat) : Int) := by
 intro b
 induction b using Nat.strongRecOn with
 | ind b ih =>
  intro a
  by_cases h : b = 0
  · subst h
    exact Ev.step (f := fun _ => some (a : Int)) (fun k => by rw [impl_gcd.l0, if_pos (by simp)]) (Ev.val (by simp))
  have e : Int.tmod (a : Int) (b : Int) = ((a % b : Nat) : Int) := by rw [Int.tmod_eq_emod_of_nonneg (by omega)]; simp
  have hg : Nat.gcd b (a % b) = Nat.gcd a b := by rw [Nat.gcd_comm a b, Nat.gcd_rec b a, Nat.gcd_comm]
  refine Ev.step (fun k => ?_) (Ev.eq (ih (a % b) (Nat.mod_lt _ (by omega)) b) (by rw [hg]))
  rw [impl_gcd.l0, if_neg (by omega), e]
theorem impl_gcd.ev (a b : Nat) : Ev (fun k => impl_gcd.f k (a : Int) (b : Int)) ((Nat.gcd a b : Nat) : Int) := by
 unfold impl_gcd.f; exact impl_gcd.ev_l b a
theorem maxF_facts : ∀ (s : List Int) (m : Int), m ≤ maxF s m ∧ (∀ x ∈ s, x ≤ maxF s m) ∧ maxF s m ∈ m :: s
 | [], m => by simp [maxF]
 | x :: s, m => by
  obtain ⟨h1, h2, h3⟩ := maxF_facts s (mx m x)
  have e : mx m x = if m < x then x else m := rfl
  refine ⟨?_, fun y hy => ?_, ?_⟩
  · show m ≤ maxF s (mx m x)
    split at e <;> omega
  · show y ≤ maxF s (mx m x)
    rcases List.mem_cons.1 hy with q | q
    · split at e <;> omega
    exact h2 y q
  show maxF s (mx m x) ∈ m :: x :: s
  rcases List.mem_cons.1 h3 with q | q
  · rw [q, e]; split <;> simp
  simp [q]
theorem cur_sureCoins_l {l : List Int} (h : BytesL l) : ∀ (d : Nat) (x3 : List Int), 1 ≤ x3.length → x3.length + d ≤ 10 → ∀ {a : Int} (s : Int), 0 ≤ a → a + 2 * (d : Int) ≤ 800000000000 → ∃ r a' t, Ev (fun k => spec_l1Cur_sureCoins.l0 k x3 (d : Int) l a s) (r, a', t) ∧ r.length ≤ 10 ∧ a ≤ a' ∧ a' ≤ a + 2 * (d : Int)
 | 0, x3, hp, hx, a, s, h0, h1 => ⟨x3, a, s, Ev.step (f := fun _ => some (x3, a, s)) (fun k => by rw [spec_l1Cur_sureCoins.l0, if_neg (by omega)]) (Ev.val rfl), by omega, by omega, by omega⟩
 | d + 1, x3, hp, hx, a, s, h0, h1 => by
  obtain ⟨r, a1, s1, e1, hr0, hr1, ha, ha'⟩ := cur_pick h s (n := 9) h0 (by omega) (by omega) (by omega)
  have ed : wrap64 (((d + 1 : Nat) : Int) - 1) = (d : Int) := by rw [w64 (by omega) (by omega)]; omega
  have el : wrap64 ((x3.length : Int) - 1) = (x3.length : Int) - 1 := w64 (by omega) (by omega)
  obtain ⟨r4, a4, s4, e4, g1, g3, g4⟩ := cur_sureCoins_l h d (x3 ++ [wrap64 ((wrap64 ((rd x3 ((x3.length : Int) - 1)) + 1)) + r)]) (by simp) (by simp; omega) (a := a1) s1 (by omega) (by omega)
  refine ⟨r4, a4, s4, Ev.step (fun k => ?_) e4, g1, by omega, by omega⟩
  rw [spec_l1Cur_sureCoins.l0, if_pos (by omega), el, if_pos (by omega), if_pos (by omega), e1, Option.bind_some, if_pos (by omega), ed]
theorem cur_coins {l : List Int} (h : BytesL l) {a : Int} (s : Int) (h0 : 0 ≤ a) (h1 : a ≤ 600000000000) : ∃ r a' t, Ev (fun k => spec_l1Cur_coins.f k l a s) (r, a', t) ∧ r.length ≤ 20 ∧ a ≤ a' ∧ a' ≤ a + 50 := by
 unfold spec_l1Cur_coins.f
 obtain ⟨r1, a1, s1, e1, ha, ha'⟩ := cur_one h s (a := a) (n := 10) (by omega) (by omega) (by omega) (by omega)
 by_cases c : r1 = true
 · obtain ⟨r3, a3, s3, e3, hc0, hc1, hc, hc'⟩ := cur_pick h s1 (a := a1) (n := 10) (by omega) (by omega) (by omega) (by omega)
   refine ⟨rd_L2 [[], [0], [2, 1], [3, 3], [1000], [1, 1001], [1, 2, 3, 4, 5, 6, 7, 8, 9], [(-1)], [2, 4], [30, 31]] r3, a3, s3, Ev.bindc e1 (Ev.pos c (Ev.bindc rfl (Ev.bindc e3 (Ev.pos hc0 (Ev.pos (by show r3 < _; simp; omega) (Ev.val rfl)))))), ?_, by omega, by omega⟩
   have : r3 = 0 ∨ r3 = 1 ∨ r3 = 2 ∨ r3 = 3 ∨ r3 = 4 ∨ r3 = 5 ∨ r3 = 6 ∨ r3 = 7 ∨ r3 = 8 ∨ r3 = 9 := by omega
   rcases this with e | e | e | e | e | e | e | e | e | e <;> subst e <;> decide
 have sure : ∃ r a' t, Ev (fun k => spec_l1Cur_sureCoins.f k l a1 s1) (r, a', t) ∧ r.length ≤ 20 ∧ a1 ≤ a' ∧ a' ≤ a1 + 40 := by
  unfold spec_l1Cur_sureCoins.f
  obtain ⟨r2, a2, s2, e2, hb, hb'⟩ := cur_one h s1 (a := a1) (n := 4) (by omega) (by omega) (by omega) (by omega)
  by_cases c2 : r2 = true
  · obtain ⟨r3, a3, s3, e3, hc0, hc1, hc, hc'⟩ := cur_pick h s2 (a := a2) (n := 7) (by omega) (by omega) (by omega) (by omega)
    refine ⟨rd_L2 [[1, 5, 10, 25], [1, 3, 4], [1, 2, 5, 10, 20, 50], [3, 5], [6, 9, 20], [2, 4, 7], [1, 7, 10]] r3, a3, s3, Ev.bindc e2 (Ev.pos c2 (Ev.bindc rfl (Ev.bindc e3 (Ev.pos hc0 (Ev.pos (by show r3 < _; simp; omega) (Ev.val rfl)))))), ?_, by omega, by omega⟩
    have : r3 = 0 ∨ r3 = 1 ∨ r3 = 2 ∨ r3 = 3 ∨ r3 = 4 ∨ r3 = 5 ∨ r3 = 6 := by omega
    rcases this with e | e | e | e | e | e | e <;> subst e <;> decide
  obtain ⟨r3, a3, s3, e3, hc0, hc1, hc, hc'⟩ := cur_pick h s2 (a := a2) (n := 5) (by omega) (by omega) (by omega) (by omega)
  obtain ⟨r4, a4, s4, e4, hd0, hd1, hd, hd'⟩ := cur_pick h s3 (a := a3) (n := 5) (by omega) (by omega) (by omega) (by omega)
  obtain ⟨n, rfl⟩ := Int.eq_ofNat_of_zero_le hd0
  obtain ⟨r5, a5, s5, e5, g1, g2, g3⟩ := cur_sureCoins_l h n [wrap64 (1 + (wrap64 (Int.tdiv r3 2)))] (by simp) (by simp; omega) (a := a4) s4 (by omega) (by omega)
  exact ⟨r5, a5, s5, Ev.bindc e2 (Ev.neg c2 (Ev.bindc e3 (Ev.bindc e4 e5))), by omega, by omega, by omega⟩
 obtain ⟨r, a2, s2, e2, hl, hb, hb'⟩ := sure
 exact ⟨r, a2, s2, Ev.bindc e1 (Ev.neg c (Ev.bind e2 (Ev.val rfl))), hl, by omega, by omega⟩
theorem drawAreCoins_ev {l : List Int} (h : BytesL l) : ∃ r, Ev (fun k => spec_DrawAreCoins.f k l) r ∧ r.length ≤ 20 := by
 obtain ⟨r, a, t, e, hl, _, _⟩ := cur_coins h (a := 0) 0 (by omega) (by omega)
 refine ⟨r, ?_, hl⟩
 unfold spec_DrawAreCoins.f spec_DrawAreCoins_in.f
 exact Ev.bind (Ev.bind e (Ev.now _)) (Ev.now _)
theorem cur_amount {l : List Int} (h : BytesL l) {a : Int} (s : Int) (h0 : 0 ≤ a) (h1 : a ≤ 800000000000) : ∃ r a' t, spec_l1Cur_amount.f l a s = some (r, a', t) := by
 unfold spec_l1Cur_amount.f
 obtain ⟨r1, a1, s1, e1, ha, ha'⟩ := cur_one h s (a := a) (n := 12) (by omega) (by omega) (by omega) (by omega)
 by_cases c : r1 = true
 · obtain ⟨r3, a3, s3, e3, hm, hc, hc'⟩ := cur_among h s1 (a := a1) [(-1), 0, 20000, 20001, 4611686018427387904] (by omega) (by omega) (by simp) (by simp)
   exact ⟨r3, a3, s3, by rw [e1, Option.bind_some]; simp only; rw [if_pos c, e3, Option.bind_some]⟩
 obtain ⟨r3, a3, s3, e3, _, _, _, _⟩ := cur_pick h s1 (a := a1) (n := 90) (by omega) (by omega) (by omega) (by omega)
 exact ⟨r3, a3, s3, by rw [e1, Option.bind_some]; simp only; rw [if_neg c, e3, Option.bind_some]⟩
theorem payN_addG {l : List Int} : ∀ (n n' : Nat) (a b : Int), PayN l n a → PayN l n' b → PayN l (n + n') (a + b)
 | 0, n', a, b, h, h' => by rw [show a = 0 from h, Int.zero_add, Nat.zero_add]; exact h'
 | n + 1, n', a, b, ⟨x, hx, hp⟩, h' => by
  rw [show n + 1 + n' = (n + n') + 1 by omega]
  exact ⟨x, hx, by rw [show a + b - x = a - x + b by omega]; exact payN_addG n n' (a - x) b hp h'⟩
theorem payN_mulG {l : List Int} {c : Int} (hc : c ∈ l) : ∀ j : Nat, PayN l j (j * c)
 | 0 => by show ((0 : Nat) : Int) * c = 0; simp
 | j + 1 => ⟨c, hc, by rw [show ((j + 1 : Nat) : Int) * c - c = j * c by rw [Int.natCast_succ, Int.add_mul, Int.one_mul]; omega]; exact payN_mulG hc j⟩
theorem grR_length : ∀ (l : List Int) (a : Int), (grR l a).length = l.length
 | [], _ => rfl
 | c :: t, a => by rw [grR, List.length_cons, grR_length t, List.length_cons]
theorem grR_app : ∀ (p q : List Int) (a : Int), grR (p ++ q) a = grR p a ++ grR q (grE p a)
 | [], _, _ => rfl
 | c :: t, q, a => by rw [List.cons_append, grR, grR_app t, grR, grE, List.cons_append]
theorem grE_app : ∀ (p q : List Int) (a : Int), grE (p ++ q) a = grE q (grE p a)
 | [], _, _ => rfl
 | c :: t, q, a => by rw [List.cons_append, grE, grE_app t, grE]
theorem grE_range : ∀ (l : List Int) (a : Int), (∀ x ∈ l, 1 ≤ x) → 0 ≤ a → 0 ≤ grE l a ∧ grE l a ≤ a
 | [], a, _, h => ⟨h, Int.le_refl _⟩
 | c :: t, a, h1, h => by
  have hc := h1 c (by simp)
  have h2 : 0 ≤ a % c := Int.emod_nonneg a (by omega)
  have h3 : a % c ≤ a := by
   have h4 := Int.mul_nonneg (show 0 ≤ c by omega) (Int.ediv_nonneg h (show 0 ≤ c by omega))
   have h5 : c * (a / c) + a % c = a := Int.mul_ediv_add_emod a c
   omega
  have := grE_range t (a % c) (fun x hx => h1 x (by simp [hx])) h2
  rw [grE]; exact ⟨this.1, Int.le_trans this.2 h3⟩
theorem grR_range : ∀ (l : List Int) (a : Int), (∀ x ∈ l, 1 ≤ x) → 0 ≤ a → (∀ x ∈ grR l a, 0 ≤ x) ∧ 0 ≤ (grR l a).sum ∧ (grR l a).sum + grE l a ≤ a
 | [], a, _, h => by
  refine ⟨fun x hx => (by cases hx), by simp [grR], by simp [grR, grE]⟩
 | c :: t, a, h1, h => by
  have hc := h1 c (by simp)
  have h2 : 0 ≤ a % c := Int.emod_nonneg a (by omega)
  have h3 : 0 ≤ a / c := Int.ediv_nonneg h (by omega)
  have h4 : a / c ≤ c * (a / c) := by
   have := Int.mul_le_mul_of_nonneg_right hc h3
   omega
  have h5 : c * (a / c) + a % c = a := Int.mul_ediv_add_emod a c
  obtain ⟨i1, i2, i3⟩ := grR_range t (a % c) (fun x hx => h1 x (by simp [hx])) h2
  rw [grR, grE, List.sum_cons]
  refine ⟨fun x hx => ?_, by omega, by omega⟩
  rcases List.mem_cons.1 hx with q | q
  · rw [q]; exact h3
  exact i1 x q
/-- Greedy change pays, with so many coins. -/
theorem gr_pay {l : List Int} : ∀ (R : List Int) (a : Int), (∀ x ∈ R, x ∈ l ∧ 1 ≤ x) → 0 ≤ a → grE R a = 0 → ∃ n : Nat, (grR R a).sum = n ∧ PayN l n a
 | [], a, _, _, h => ⟨0, rfl, h⟩
 | c :: t, a, hR, h, e => by
  have hc := (hR c (by simp)).2
  have h2 : 0 ≤ a % c := Int.emod_nonneg a (by omega)
  have h3 : 0 ≤ a / c := Int.ediv_nonneg h (by omega)
  obtain ⟨n, hn, hp⟩ := gr_pay t (a % c) (fun x hx => hR x (by simp [hx])) h2 e
  refine ⟨(a / c).toNat + n, by rw [grR, List.sum_cons]; omega, ?_⟩
  have h4 := payN_mulG (hR c (by simp)).1 (a / c).toNat
  rw [Int.toNat_of_nonneg h3] at h4
  have := payN_addG _ _ _ _ h4 hp
  rw [show a / c * c + a % c = a from by rw [Int.mul_comm]; exact Int.mul_ediv_add_emod a c] at this
  exact this
/-- One greatest coin more. -/
theorem gr_step (c : Int) (t : List Int) (a : Int) (hc : 1 ≤ c) (ha : c ≤ a) : grE (c :: t) a = grE (c :: t) (a - c) ∧ (grR (c :: t) a).sum = 1 + (grR (c :: t) (a - c)).sum := by
 have e1 : (a - c) % c = a % c := by rw [Int.sub_emod, Int.emod_self, Int.sub_zero, Int.emod_emod_of_dvd _ (Int.dvd_refl c)]
 have e2 : (a - c) / c = a / c - 1 := by
  have := Int.sub_mul_ediv_right a 1 (show c ≠ 0 by omega)
  rw [Int.one_mul] at this; exact this
 rw [grE, grE, grR, grR, e1, List.sum_cons, List.sum_cons, e2]
 exact ⟨rfl, by omega⟩
/-- Greedy change does not fail. -/
def Good (l : List Int) (a : Int) : Prop := ∀ n, PayN l n a → grE l.reverse a = 0 ∧ (grR l.reverse a).sum ≤ (n : Int)
theorem good_step {l : List Int} {c : Int} {t : List Int} (h1 : ∀ x ∈ l, 1 ≤ x) (e : l.reverse = c :: t) (hm : ∀ x ∈ t, x < c) (w : Int) (hw : c ≤ w) (hw2 : t ≠ [] → 2 * c ≤ w) (ih : ∀ a, 0 ≤ a → a < w → Good l a) : Good l w := by
 have hcl : c ∈ l := by rw [← List.mem_reverse, e]; simp
 have hc := h1 c hcl
 have A : ∀ n, PayN l n (w - c) → grE l.reverse w = 0 ∧ (grR l.reverse w).sum ≤ ((n + 1 : Nat) : Int) := fun n hn => by
  have := ih (w - c) (by omega) (by omega) n hn
  have hs := gr_step c t w hc hw
  rw [← e] at hs
  rw [hs.1, hs.2]
  exact ⟨this.1, by omega⟩
 intro n hn
 cases n with
 | zero => exact absurd (show w = 0 from hn) (by omega)
 | succ n =>
  obtain ⟨x, hx, hp⟩ := hn
  have hx1 := h1 x hx
  rw [← List.mem_reverse, e] at hx
  rcases List.mem_cons.1 hx with q | q
  · rw [q] at hp; exact A n hp
  have hxc := hm x q
  have h2 := hw2 (fun h => by rw [h] at q; cases q)
  obtain ⟨g1, g2⟩ := ih (w - x) (by omega) (by omega) n hp
  have hs := gr_step c t (w - x) hc (by omega)
  rw [← e] at hs
  rw [hs.1] at g1
  rw [hs.2] at g2
  obtain ⟨n', hn', hp'⟩ := gr_pay (l := l) l.reverse (w - x - c) (fun y hy => ⟨List.mem_reverse.1 hy, h1 y (List.mem_reverse.1 hy)⟩) (by omega) g1
  have hxl : x ∈ l := by rw [← List.mem_reverse, e]; simp [q]
  have := A (n' + 1) ⟨x, hxl, by rw [show w - c - x = w - x - c by omega]; exact hp'⟩
  exact ⟨this.1, by omega⟩
/-- If greedy change fails, it does below two greatest coins. -/
theorem good_all {l : List Int} {c : Int} {t : List Int} (h1 : ∀ x ∈ l, 1 ≤ x) (e : l.reverse = c :: t) (hm : ∀ x ∈ t, x < c) (N : Int) (hN : c ≤ N) (hN2 : t ≠ [] → 2 * c ≤ N) (h : ∀ a, 0 ≤ a → a < N → Good l a) : ∀ (d : Nat) (a : Int), 0 ≤ a → a < d → Good l a
 | 0, a, h0, h1 => by omega
 | d + 1, a, h0, ha => by
  by_cases q : a < N
  · exact h a h0 q
  exact good_step h1 e hm a (by omega) (fun ht => by have := hN2 ht; omega) (fun b hb hb2 => good_all h1 e hm N hN hN2 h d b hb (by omega))
/-- Greedy change fails. -/
noncomputable def failB (l : List Int) (a : Int) : Bool := decide (0 ≤ fewF l (-1) a) && (decide (grE l.reverse a ≠ 0) || decide (fewF l (-1) a < (grR l.reverse a).sum))
theorem failB_iff {l : List Int} (h1 : ∀ x ∈ l, 1 ≤ x) (a : Int) : failB l a = false ↔ Good l a := by
 unfold failB
 rcases fewF_cases h1 a with ⟨p, h2, h3, _, e⟩ | ⟨h2, e⟩
 · rw [e]
   generalize hs : (grR l.reverse a).sum = s
   constructor
   · intro h n hn
     have hpn : p ≤ n := by
      apply Classical.byContradiction
      intro q
      exact h3 n (by omega) hn
     simp only [Bool.and_eq_false_iff, Bool.or_eq_false_iff, decide_eq_false_iff_not, ne_eq, Classical.not_not] at h
     rw [hs]
     rcases h with h | ⟨h, h'⟩
     · omega
     exact ⟨h, by omega⟩
   intro h
   have := h p h2
   rw [hs] at this
   simp only [Bool.and_eq_false_iff, Bool.or_eq_false_iff, decide_eq_false_iff_not, ne_eq, Classical.not_not]
   exact .inr ⟨this.1, by omega⟩
 rw [e]
 exact ⟨fun _ n hn => absurd hn (h2 n), fun _ => rfl⟩
theorem coins_rev {l : List Int} (g : coinsB l = true) : ∃ c t, l.reverse = c :: t ∧ (∀ x ∈ t, x < c) ∧ 1 ≤ c ∧ c ≤ 1000 ∧ c = rd l ((l.length : Int) - 1) ∧ t.length + 1 = l.length := by
 have hf := coins_facts g
 cases hr : l.reverse with
 | nil =>
  have h2 := congrArg List.length hr
  rw [List.length_reverse, List.length_nil] at h2
  have h3 := hf.1
  omega
 | cons c t =>
  have hp := pairwise_of_rises l hf.2.2.2
  have e : l = t.reverse ++ [c] := by
   have := congrArg List.reverse hr
   rw [List.reverse_reverse, List.reverse_cons] at this; exact this
  have hc := hf.2.2.1 c (by rw [e]; simp)
  refine ⟨c, t, rfl, fun x hx => ?_, hc.1, hc.2, ?_, ?_⟩
  · rw [e, List.pairwise_append] at hp
    exact hp.2.2 x (List.mem_reverse.2 hx) c (by simp)
  · rw [e, List.length_append, List.length_reverse, List.length_singleton]
    have := rd_app t.reverse c []
    rw [List.length_reverse] at this
    rw [show ((t.length + 1 : Nat) : Int) - 1 = (t.length : Int) by omega, this]
  rw [e]; simp
/-- One coin alone never fails. -/
theorem good_one {l : List Int} {c : Int} (h1 : ∀ x ∈ l, 1 ≤ x) (e : l.reverse = [c]) (a : Int) (h0 : 0 ≤ a) : Good l a := by
 have hcl : ∀ x ∈ l, x = c := fun x hx => by rw [← List.mem_reverse, e] at hx; exact List.mem_singleton.1 hx
 have hc : 1 ≤ c := h1 c (by rw [← List.mem_reverse, e]; simp)
 refine good_all h1 e (fun x hx => (by cases hx)) c (Int.le_refl _) (fun h => absurd rfl h) (fun b hb hb2 n hn => ?_) (a.toNat + 1) a h0 (by omega)
 cases n with
 | zero =>
  have : b = 0 := hn
  rw [e, this]; simp [grR, grE]
 | succ n =>
  obtain ⟨x, hx, hp⟩ := hn
  have := payN_ge h1 n _ hp
  have := hcl x hx
  omega
/-- The least amount for which greedy change fails. -/
noncomputable def ffF (l : List Int) : Int := lst (fun n => failB l (n : Int) = true) (-1)
theorem ff_cases {l : List Int} (g : coinsB l = true) : (∃ p : Nat, failB l (p : Int) = true ∧ (∀ i : Nat, i < p → failB l (i : Int) = false) ∧ (p : Int) < 2 * rd l ((l.length : Int) - 1) ∧ 2 ≤ l.length ∧ ffF l = p) ∨ ((∀ i : Nat, failB l (i : Int) = false) ∧ ffF l = -1) := by
 have h1 : ∀ x ∈ l, 1 ≤ x := fun x hx => ((coins_facts g).2.2.1 x hx).1
 obtain ⟨c, t, e, hm, hc, hc2, ec, hl⟩ := coins_rev g
 rw [← ec]
 unfold ffF
 rcases lst_cases (fun n => failB l (n : Int) = true) (-1) with ⟨p, h2, h3, h4⟩ | ⟨h2, h3⟩
 · left
   refine ⟨p, h2, fun i hi => Bool.not_eq_true _ ▸ h3 i hi, ?_, ?_, h4⟩
   · apply Classical.byContradiction
     intro q
     have := good_all h1 e hm (2 * c) (by omega) (fun _ => Int.le_refl _) (fun a h0 ha => by
      have := (failB_iff h1 a).1
      apply this
      have := h3 a.toNat (by omega)
      rw [Int.toNat_of_nonneg h0] at this
      exact (Bool.not_eq_true _).mp this) (p + 1) (p : Int) (by omega) (by omega)
     rw [(failB_iff h1 _).2 this] at h2
     cases h2
   apply Classical.byContradiction
   intro q
   have ht : t = [] := List.eq_nil_of_length_eq_zero (by omega)
   rw [ht] at e
   have := good_one h1 e (p : Int) (by omega)
   rw [(failB_iff h1 _).2 this] at h2
   cases h2
 right
 exact ⟨fun i => (Bool.not_eq_true _).mp (h2 i), h3⟩
/-- The first of the failures below a number. -/
theorem filter_rg_first (p : Int → Bool) : ∀ (d i : Nat), ((∀ j : Nat, i ≤ j → j < i + d → p (j : Int) = false) ∧ (rg i d).filter p = []) ∨ (∃ j : Nat, i ≤ j ∧ j < i + d ∧ p (j : Int) = true ∧ (∀ k : Nat, i ≤ k → k < j → p (k : Int) = false) ∧ ∃ t, (rg i d).filter p = (j : Int) :: t)
 | 0, i => .inl ⟨fun j h1 h2 => by omega, rfl⟩
 | d + 1, i => by
  rw [rg_succ, List.filter_cons]
  by_cases q : p (i : Int) = true
  · right
    rw [if_pos q]
    exact ⟨i, Nat.le_refl _, by omega, q, fun k h1 h2 => by omega, _, rfl⟩
  rw [if_neg q]
  rcases filter_rg_first p d (i + 1) with ⟨h1, h2⟩ | ⟨j, h1, h2, h3, h4, h5⟩
  · left
    refine ⟨fun j h3 h4 => ?_, h2⟩
    by_cases e : j = i
    · rw [e]; exact (Bool.not_eq_true _).mp q
    exact h1 j (by omega) (by omega)
  right
  refine ⟨j, by omega, by omega, h3, fun k h6 h7 => ?_, h5⟩
  by_cases e : k = i
  · rw [e]; exact (Bool.not_eq_true _).mp q
  exact h4 k (by omega) h7
/-- All failures up to a limit. -/
noncomputable def failL (l : List Int) (m : Int) : List Int := (rg 0 (m + 1).toNat).filter fun a => failB l a
theorem mem_failL {l : List Int} {m a : Int} : a ∈ failL l m ↔ (0 ≤ a ∧ a ≤ m) ∧ failB l a = true := by
 unfold failL
 rw [List.mem_filter]
 unfold rg
 rw [List.mem_map]
 constructor
 · rintro ⟨⟨j, hj, rfl⟩, h⟩
   rw [List.mem_range'_1] at hj
   exact ⟨by omega, h⟩
 rintro ⟨h1, h2⟩
 exact ⟨⟨a.toNat, by rw [List.mem_range'_1]; omega, by omega⟩, h2⟩
theorem failL_rises (l : List Int) (m : Int) : (failL l m).Pairwise (fun x y => x < y) := (rg_rises _ _).sublist List.filter_sublist
/-- The first failure, from a list that reaches far enough. -/
theorem failL_first {l : List Int} (g : coinsB l = true) (m : Int) (hm : 2 * rd l ((l.length : Int) - 1) ≤ m ∨ l.length = 1) : (∃ p : Nat, ffF l = p ∧ ∃ t, failL l m = (p : Int) :: t) ∨ (ffF l = -1 ∧ failL l m = []) := by
 rcases ff_cases g with ⟨p, h1, h2, h3, h4, h5⟩ | ⟨h1, h2⟩
 · left
   refine ⟨p, h5, ?_⟩
   rcases filter_rg_first (fun a => failB l a) (m + 1).toNat 0 with ⟨h6, h7⟩ | ⟨j, h6, h7, h8, h9, h10⟩
   · have := h6 p (by omega) (by omega)
     rw [this] at h1; cases h1
   have e : j = p := by
    rcases Nat.lt_trichotomy j p with q | q | q
    · have := h2 j q; rw [this] at h8; cases h8
    · exact q
    have := h9 p (by omega) q; rw [this] at h1; cases h1
   rw [← e]; exact h10
 right
 refine ⟨h2, ?_⟩
 rcases filter_rg_first (fun a => failB l a) (m + 1).toNat 0 with ⟨h6, h7⟩ | ⟨j, h6, h7, h8, h9, h10⟩
 · exact h7
 have := h1 j; rw [this] at h8; cases h8
/-- Ways with one kind more, told at most so far. -/
def wG : Nat → Int → (Int → Int) → Int → Int
 | 0, _, f, a => f a
 | n + 1, c, f, a => if a < c then f a else min (f a + wG n c f (a - c)) 1000000000000001
theorem wG_succ (n : Nat) (c : Int) (f : Int → Int) (a : Int) : wG (n + 1) c f a = if a < c then f a else min (f a + wG n c f (a - c)) 1000000000000001 := rfl
theorem wG_more (c : Int) (f : Int → Int) (hc : 1 ≤ c) : ∀ (n : Nat) (a : Int), 0 ≤ a → a ≤ n → wG (n + 1) c f a = wG n c f a
 | 0, a, h0, h1 => by rw [wG_succ, if_pos (by omega)]; rfl
 | n + 1, a, h0, h1 => by
  rw [wG_succ (n + 1) c f a, wG_succ n c f a]
  by_cases q : a < c
  · rw [if_pos q, if_pos q]
  rw [if_neg q, if_neg q, wG_more c f hc n (a - c) (by omega) (by omega)]
theorem wG_any (c : Int) (f : Int → Int) (hc : 1 ≤ c) (a : Int) (h0 : 0 ≤ a) : ∀ (d : Nat), wG (a.toNat + d) c f a = wG a.toNat c f a
 | 0 => rfl
 | d + 1 => by rw [show a.toNat + (d + 1) = (a.toNat + d) + 1 by omega, wG_more c f hc _ a h0 (by omega), wG_any c f hc a h0 d]
def wF (c : Int) (f : Int → Int) (a : Int) : Int := wG a.toNat c f a
theorem wF_eq (c : Int) (f : Int → Int) (hc : 1 ≤ c) (a : Int) (h0 : 0 ≤ a) : wF c f a = if a < c then f a else min (f a + wF c f (a - c)) 1000000000000001 := by
 unfold wF
 rw [← wG_more c f hc a.toNat a h0 (by omega), wG_succ]
 by_cases q : a < c
 · rw [if_pos q, if_pos q]
 rw [if_neg q, if_neg q]
 obtain ⟨d, hd⟩ : ∃ d, a.toNat = (a - c).toNat + d := ⟨a.toNat - (a - c).toNat, by omega⟩
 rw [hd, wG_any c f hc (a - c) (by omega) d]
theorem wF_range (c : Int) (f : Int → Int) (hc : 1 ≤ c) (hf : ∀ a, 0 ≤ f a ∧ f a ≤ 1000000000000001) (a : Int) : 0 ≤ wF c f a ∧ wF c f a ≤ 1000000000000001 := by
 have : ∀ (n : Nat) (a : Int), 0 ≤ wG n c f a ∧ wG n c f a ≤ 1000000000000001 := by
  intro n
  induction n with
  | zero => intro a; exact hf a
  | succ n ih =>
   intro a
   have h1 := hf a
   have h2 := ih (a - c)
   rw [wG_succ]
   split
   · exact h1
   omega
 exact this _ a
theorem wF_pos (c : Int) (f : Int → Int) (hc : 1 ≤ c) (hf : ∀ a, 0 ≤ f a ∧ f a ≤ 1000000000000001) : ∀ (d : Nat) (a : Int), 0 ≤ a → a ≤ d → (0 < wF c f a ↔ ∃ j : Nat, 0 ≤ a - j * c ∧ 0 < f (a - j * c))
 | d, a, h0, hd => by
  rw [wF_eq c f hc a h0]
  by_cases q : a < c
  · rw [if_pos q]
    constructor
    · intro h; exact ⟨0, by omega, by rw [show a - ((0 : Nat) : Int) * c = a by simp]; exact h⟩
    rintro ⟨j, h1, h2⟩
    cases j with
    | zero => rw [show a - ((0 : Nat) : Int) * c = a by simp] at h2; exact h2
    | succ j =>
     have h3 := Int.mul_nonneg (Int.natCast_nonneg j) (show 0 ≤ c by omega)
     rw [show ((j + 1 : Nat) : Int) * c = (j : Int) * c + c by rw [Int.natCast_succ, Int.add_mul, Int.one_mul]] at h1
     omega
  rw [if_neg q]
  cases d with
  | zero => omega
  | succ d =>
  have ih := wF_pos c f hc hf d (a - c) (by omega) (by omega)
  have hr := wF_range c f hc hf (a - c)
  have ha := hf a
  constructor
  · intro h
    by_cases p : 0 < f a
    · exact ⟨0, by omega, by rw [show a - ((0 : Nat) : Int) * c = a by simp]; exact p⟩
    obtain ⟨j, h1, h2⟩ := ih.1 (by omega)
    have e : a - ((j + 1 : Nat) : Int) * c = a - c - j * c := by rw [Int.natCast_succ, Int.add_mul, Int.one_mul]; omega
    exact ⟨j + 1, by rw [e]; exact h1, by rw [e]; exact h2⟩
  rintro ⟨j, h1, h2⟩
  cases j with
  | zero =>
   rw [show a - ((0 : Nat) : Int) * c = a by simp] at h2
   omega
  | succ j =>
   have e : a - ((j + 1 : Nat) : Int) * c = a - c - j * c := by rw [Int.natCast_succ, Int.add_mul, Int.one_mul]; omega
   rw [e] at h1 h2
   have := ih.2 ⟨j, h1, h2⟩
   omega
/-- Ways of change by coins, told at most so far. -/
def waysF (l : List Int) : Int → Int := l.foldl (fun f c => wF c f) (fun a => if a = 0 then 1 else 0)
theorem waysF_snoc (q : List Int) (c : Int) : waysF (q ++ [c]) = wF c (waysF q) := by unfold waysF; rw [List.foldl_append]; rfl
theorem waysF_nil (a : Int) : waysF [] a = if a = 0 then 1 else 0 := rfl
theorem snoc_ind {P : List Int → Prop} (h0 : P []) (hs : ∀ q c, P q → P (q ++ [c])) : ∀ l, P l := by
 intro l
 have : ∀ m : List Int, P m.reverse := by
  intro m
  induction m with
  | nil => exact h0
  | cons c t ih => rw [List.reverse_cons]; exact hs _ _ ih
 have h := this l.reverse
 rw [List.reverse_reverse] at h; exact h
theorem waysF_range : ∀ (l : List Int), (∀ x ∈ l, 1 ≤ x) → ∀ a, 0 ≤ waysF l a ∧ waysF l a ≤ 1000000000000001 := by
 refine snoc_ind (fun _ a => ?_) (fun q c ih h1 a => ?_)
 · rw [waysF_nil]; split <;> omega
 rw [waysF_snoc]
 exact wF_range c _ (h1 c (by simp)) (ih (fun x hx => h1 x (by simp [hx]))) a
theorem payN_snoc {q : List Int} {c : Int} (a : Int) : (∃ n, PayN (q ++ [c]) n a) ↔ ∃ j : Nat, ∃ n, PayN q n (a - j * c) := by
 constructor
 · rintro ⟨n, h⟩
   induction n generalizing a with
   | zero => exact ⟨0, 0, by rw [show a - ((0 : Nat) : Int) * c = a by simp]; exact h⟩
   | succ n ih =>
    obtain ⟨x, hx, hp⟩ := h
    obtain ⟨j, m, hm⟩ := ih _ hp
    rcases List.mem_append.1 hx with h1 | h1
    · exact ⟨j, m + 1, x, h1, by rw [show a - j * c - x = a - x - j * c by omega]; exact hm⟩
    have : x = c := List.mem_singleton.1 h1
    rw [this] at hm
    exact ⟨j + 1, m, by rw [show a - ((j + 1 : Nat) : Int) * c = a - c - j * c by rw [Int.natCast_succ, Int.add_mul, Int.one_mul]; omega]; exact hm⟩
 rintro ⟨j, n, h⟩
 have h1 : PayN (q ++ [c]) n (a - j * c) := by
  have : ∀ (n : Nat) (b : Int), PayN q n b → PayN (q ++ [c]) n b := by
   intro n
   induction n with
   | zero => intro b h; exact h
   | succ n ih => rintro b ⟨x, hx, hp⟩; exact ⟨x, by simp [hx], ih _ hp⟩
  exact this n _ h
 have h2 := payN_addG _ _ _ _ (payN_mulG (l := q ++ [c]) (c := c) (by simp) j) h1
 rw [show (j : Int) * c + (a - j * c) = a by omega] at h2
 exact ⟨_, h2⟩
theorem waysF_pos : ∀ (l : List Int), (∀ x ∈ l, 1 ≤ x) → ∀ a, 0 ≤ a → (0 < waysF l a ↔ ∃ n, PayN l n a) := by
 refine snoc_ind (fun _ a h0 => ?_) (fun q c ih h1 a h0 => ?_)
 · rw [waysF_nil]
   constructor
   · intro h
     by_cases q : a = 0
     · exact ⟨0, q⟩
     rw [if_neg q] at h; omega
   rintro ⟨n, h⟩
   cases n with
   | zero => rw [if_pos (show a = 0 from h)]; omega
   | succ n => obtain ⟨x, hx, _⟩ := h; cases hx
 have hq : ∀ x ∈ q, 1 ≤ x := fun x hx => h1 x (by simp [hx])
 rw [waysF_snoc, wF_pos c _ (h1 c (by simp)) (waysF_range q hq) a.toNat a h0 (by omega), payN_snoc]
 constructor
 · rintro ⟨j, h2, h3⟩; exact ⟨j, (ih hq _ h2).1 h3⟩
 rintro ⟨j, n, h3⟩
 have h4 := payN_ge hq n _ h3
 exact ⟨j, by omega, (ih hq _ (by omega)).2 ⟨n, h3⟩⟩
/-- What the count of ways tells. -/
def waysC (l : List Int) (a : Int) : Int × Bool := if (coinsB l && inB a 0 20000) = true ∧ waysF l a ≤ 1000000000000000 then (waysF l a, true) else (0, false)
theorem spec_cnGreedy.ev_l (l : List Int) (hl : l.length ≤ 1000000) (h1 : ∀ x ∈ l, 1 ≤ x) (a : Int) (h0 : 0 ≤ a) (h2 : a ≤ 1000000000000) : ∀ (p q : List Int), p ++ q = l → Ev (fun k => spec_cnGreedy.l0 k l (grE q.reverse a) (List.replicate p.length 0 ++ (grR q.reverse a).reverse) ((p.length : Int) - 1)) ((grR l.reverse a).reverse, decide (grE l.reverse a = 0)) := by
 refine snoc_ind (fun q e => ?_) (fun p c ih q e => ?_)
 · rw [List.nil_append] at e
   subst e
   refine Ev.step (f := fun _ => some ((grR q.reverse a).reverse, (grE q.reverse a == 0))) (fun k => ?_) (Ev.val rfl)
   rw [spec_cnGreedy.l0, if_neg (by simp)]; rfl
 have e' : p ++ c :: q = l := by rw [← e]; simp
 have h := ih (c :: q) e'
 have hc := h1 c (by rw [← e']; simp)
 have hE := grE_range q.reverse a (fun x hx => h1 x (by rw [← e']; simp; exact .inr (.inr (List.mem_reverse.1 hx)))) h0
 have hlen : l.length = p.length + (q.length + 1) := by rw [← e']; simp
 have hrd : rd l (p.length : Int) = c := by rw [← e']; exact rd_app p c q
 have hd0 := Int.ediv_nonneg hE.1 (show 0 ≤ c by omega)
 have hd1 := Int.ediv_le_self c hE.1
 have hpl : (((p ++ [c]).length : Nat) : Int) - 1 = (p.length : Int) := by simp
 refine Ev.step (fun k => ?_) h
 rw [hpl, spec_cnGreedy.l0, if_pos (by omega), if_pos (by omega), if_pos (by omega), hrd, if_neg (by omega), if_pos ?_, Int.tdiv_eq_ediv_of_nonneg hE.1, Int.tmod_eq_emod_of_nonneg hE.1, w64 (n := grE q.reverse a / c) (by omega) (by omega), w64 (n := (p.length : Int) - 1) (by omega) (by omega), Int.toNat_natCast]
 · rw [List.reverse_cons, grE_app, grR_app]
   simp only [grE, grR, List.reverse_append, List.reverse_cons, List.reverse_nil, List.nil_append, List.singleton_append, List.length_append, List.length_singleton]
   congr 1
   rw [List.replicate_succ', List.append_assoc, List.set_append_right _ _ (by simp)]
   simp
 simp only [List.length_append, List.length_replicate, List.length_singleton]; omega
theorem spec_cnGreedy.ev (l : List Int) (hl : l.length ≤ 1000000) (h1 : ∀ x ∈ l, 1 ≤ x) (a : Int) (h0 : 0 ≤ a) (h2 : a ≤ 1000000000000) : Ev (fun k => spec_cnGreedy.f k l a) ((grR l.reverse a).reverse, decide (grE l.reverse a = 0)) := by
 unfold spec_cnGreedy.f
 refine Ev.pos (by omega) (Ev.pos (by omega) ?_)
 have h := spec_cnGreedy.ev_l l hl h1 a h0 h2 l [] (by simp)
 simp only [List.reverse_nil, grE, grR, List.append_nil] at h
 rw [w64 (n := (l.length : Int) - 1) (by omega) (by omega), Int.toNat_natCast]
 exact h
theorem impl_greedy.ev (l : List Int) (hl : l.length ≤ 1000000) (h1 : ∀ x ∈ l, 1 ≤ x) (a : Int) (h0 : 0 ≤ a) (h2 : a ≤ 1000000000000) : impl_greedy.f l a = some ((grR l.reverse a).reverse, decide (grE l.reverse a = 0)) := by
 unfold impl_greedy.f
 rw [if_pos ⟨hl, h1, h0, h2⟩]
theorem gr_sum {l : List Int} (h1 : ∀ x ∈ l, 1 ≤ x) (a : Int) (h0 : 0 ≤ a) : (∀ x ∈ (grR l.reverse a).reverse, 0 ≤ x) ∧ ((grR l.reverse a).reverse).sum = (grR l.reverse a).sum ∧ 0 ≤ (grR l.reverse a).sum ∧ (grR l.reverse a).sum ≤ a ∧ ((grR l.reverse a).reverse).length = l.length := by
 have hr : ∀ x ∈ l.reverse, 1 ≤ x := fun x hx => h1 x (List.mem_reverse.1 hx)
 obtain ⟨i1, i2, i3⟩ := grR_range l.reverse a hr h0
 have i4 := grE_range l.reverse a hr h0
 refine ⟨fun x hx => i1 x (List.mem_reverse.1 hx), List.sum_reverse _, i2, by omega, by rw [List.length_reverse, grR_length, List.length_reverse]⟩
/-- Greedy change as told. -/
def grC (l : List Int) (a : Int) : List Int × Bool := if (coinsB l && inB a 0 20000) = true ∧ grE l.reverse a = 0 then ((grR l.reverse a).reverse, true) else ([], false)
theorem asked_facts {l : List Int} {a : Int} (c : (coinsB l && inB a 0 20000) = true) : coinsB l = true ∧ 0 ≤ a ∧ a ≤ 20000 ∧ (∀ x ∈ l, 1 ≤ x) ∧ l.length ≤ 8 := by
 unfold inB at c
 simp only [Bool.and_eq_true, decide_eq_true_eq] at c
 have hf := coins_facts c.1
 exact ⟨c.1, c.2.1, c.2.2, fun x hx => (hf.2.2.1 x hx).1, hf.2.1⟩
theorem impl_GreedyChange.ev (l : List Int) (a : Int) (hl : l.length ≤ 9223372036854775806) : Ev (fun k => impl_GreedyChange.f k l a) (grC l a) := by
 unfold impl_GreedyChange.f
 refine Ev.bind (impl_isAmount.ev l a hl) (Ev.ite (fun c => ?_) (fun c => Ev.val (by rw [grC, if_neg (fun h => c h.1)])))
 obtain ⟨g, h0, h2, h1, hl8⟩ := asked_facts c
 refine Ev.bindc (impl_greedy.ev l (by omega) h1 a h0 (by omega)) (Ev.ite (fun d => Ev.val ?_) (fun d => Ev.val ?_))
 · rw [grC, if_pos ⟨c, of_decide_eq_true d⟩]
 rw [grC, if_neg (fun h => d (decide_eq_true h.2))]
theorem spec_GreedyChange.ev (l : List Int) (a : Int) (hl : l.length ≤ 9223372036854775806) : Ev (fun k => spec_GreedyChange.f k l a) (grC l a) := by
 unfold spec_GreedyChange.f
 refine Ev.bind (spec_cnAsked.ev l a hl) (Ev.ite (fun c => ?_) (fun c => Ev.val (by rw [grC, if_neg (fun h => c h.1)])))
 obtain ⟨g, h0, h2, h1, hl8⟩ := asked_facts c
 refine Ev.bind (spec_cnGreedy.ev l (by omega) h1 a h0 (by omega)) (Ev.ite (fun d => Ev.val ?_) (fun d => Ev.val ?_))
 · rw [grC, if_pos ⟨c, of_decide_eq_true d⟩]
 rw [grC, if_neg (fun h => d (decide_eq_true h.2))]
/-- Its count as told. -/
def grN (l : List Int) (a : Int) : Int × Bool := ((grC l a).1.sum, (grC l a).2)
theorem grC_sum (l : List Int) (a : Int) : (∀ x ∈ (grC l a).1, 0 ≤ x) ∧ (grC l a).1.sum ≤ 20000 ∧ (grC l a).1.length ≤ 8 := by
 unfold grC
 split
 · rename_i c
   obtain ⟨g, h0, h2, h1, hl8⟩ := asked_facts c.1
   obtain ⟨i1, i2, i3, i4, i5⟩ := gr_sum h1 a h0
   exact ⟨i1, by show ((grR l.reverse a).reverse).sum ≤ 20000; omega, by show ((grR l.reverse a).reverse).length ≤ 8; omega⟩
 exact ⟨fun x hx => (by cases hx), by decide, by decide⟩
theorem impl_GreedyCount.ev (l : List Int) (a : Int) (hl : l.length ≤ 9223372036854775806) : Ev (fun k => impl_GreedyCount.f k l a) (grN l a) := by
 unfold impl_GreedyCount.f
 obtain ⟨i1, i2, i3⟩ := grC_sum l a
 exact Ev.bind (impl_GreedyChange.ev l a hl) (Ev.bind (impl_total.ev _ (by omega) i1 (by omega)) (Ev.val rfl))
theorem spec_GreedyCount.ev (l : List Int) (a : Int) (hl : l.length ≤ 9223372036854775806) : Ev (fun k => spec_GreedyCount.f k l a) (grN l a) := by
 unfold spec_GreedyCount.f
 obtain ⟨i1, i2, i3⟩ := grC_sum l a
 refine Ev.bind (spec_GreedyChange.ev l a hl) (Ev.ite (fun c => Ev.bind (spec_piSum.ev _ (by omega) i1 (by omega)) (Ev.val (by rw [grN, c]))) (fun c => Ev.val ?_))
 unfold grN
 unfold grC at c ⊢
 split
 · rename_i d; rw [if_pos d] at c; exact absurd rfl c
 rfl
theorem mn_min (a b : Int) : mn a b = min a b := by rw [mn_eq]; split <;> omega
theorem least_min (a b : Int) : spec_l1Least.f a b = some (min a b) := by
 unfold spec_l1Least.f
 split
 · rw [show min a b = a by omega]
 rw [show min a b = b by omega]
theorem tab_repC (N : Nat) (b : Int) : List.replicate N b = tab N (fun _ => b) := by
 apply List.ext_getElem
 · simp [tab]
 intro i h1 h2; simp [tab]
def cwT (c : Int) (f : Int → Int) (v a : Int) : Int := if a < v then wF c f a else f a
theorem impl_CountChange.ev_1 {R : Int × Bool} (m : Int) (hm : 0 ≤ m ∧ m ≤ 20000) (c : Int) (hc : 1 ≤ c ∧ c ≤ 1000) (f : Int → Int) (hf : ∀ a, 0 ≤ f a ∧ f a ≤ 1000000000000001) (L : List Int) (n i : Int) (next : Ev (fun k => impl_CountChange.l0 k m (tab (m + 1).toNat (wF c f)) L n (wrap64 (i + 1))) R) : ∀ (d : Nat) (v : Int), c ≤ v → m + 1 ≤ v + d → Ev (fun k => impl_CountChange.l1 k m (tab (m + 1).toNat (cwT c f v)) c v L n i) R
 | 0, v, hv, e => by
  refine Ev.step (fun k => ?_) next
  rw [impl_CountChange.l1, if_neg (by omega)]
  congr 1
  refine tab_congr _ _ _ (fun a _ ha => ?_)
  rw [cwT, if_pos (by omega)]
 | d + 1, v, hv, e => by
  by_cases q : v ≤ m
  · have ih := impl_CountChange.ev_1 m hm c hc f hf L n i next d (v + 1) (by omega) (by omega)
    have hw := wF_range c f hc.1 hf (v - c)
    have hfv := hf v
    have e1 : cwT c f v v = f v := by rw [cwT, if_neg (by omega)]
    have e2 : cwT c f v (v - c) = wF c f (v - c) := by rw [cwT, if_pos (by omega)]
    refine Ev.step (fun k => ?_) ih
    rw [impl_CountChange.l1, if_pos q, if_pos (by omega), if_pos (by rw [tab_length]; omega), w64 (n := v - c) (by omega) (by omega), if_pos (by omega), if_pos (by rw [tab_length]; omega), rd_tab _ _ v (by omega) (by omega), rd_tab _ _ (v - c) (by omega) (by omega), e1, e2, w64 (n := f v + wF c f (v - c)) (by omega) (by omega), w64 (n := v + 1) (by omega) (by omega)]
    first | rw [mn_min] | rw [least_min, Option.bind_some]
    rw [tab_set _ _ _ _ (by omega)]
    congr 1
    refine tab_congr _ _ _ (fun a h0 _ => ?_)
    unfold cwT
    by_cases q2 : a = v
    · rw [if_pos q2, if_pos (by omega), wF_eq c f hc.1 a h0, if_neg (by omega), q2]
    rw [if_neg q2]
    by_cases q3 : a < v
    · rw [if_pos q3, if_pos (by omega)]
    rw [if_neg q3, if_neg (by omega)]
  refine Ev.step (fun k => ?_) next
  rw [impl_CountChange.l1, if_neg q]
  congr 1
  refine tab_congr _ _ _ (fun a _ ha => ?_)
  rw [cwT, if_pos (by omega)]
theorem impl_CountChange.ev_0 (m : Int) (hm : 0 ≤ m ∧ m ≤ 20000) (l : List Int) (hl : l.length ≤ 1000) (h1 : ∀ x ∈ l, 1 ≤ x ∧ x ≤ 1000) : ∀ (s q : List Int), q ++ s = l → Ev (fun k => impl_CountChange.l0 k m (tab (m + 1).toNat (waysF q)) l (l.length : Int) (q.length : Int)) (if waysF l m ≤ 1000000000000000 then (waysF l m, true) else (0, false))
 | [], q, e => by
  rw [List.append_nil] at e
  subst e
  refine Ev.step (f := fun _ => some (if waysF q m ≤ 1000000000000000 then (waysF q m, true) else (0, false))) (fun k => ?_) (Ev.val rfl)
  rw [impl_CountChange.l0, if_neg (by omega), if_pos (by omega), if_pos (by rw [tab_length]; omega), rd_tab _ _ m (by omega) (by omega)]
  by_cases c : waysF q m ≤ 1000000000000000
  · rw [if_neg (by omega), if_pos c]
  rw [if_pos (by omega), if_neg c]
 | c :: s, q, e => by
  have hlen : l.length = q.length + (s.length + 1) := by rw [← e]; simp
  have hc := h1 c (by rw [← e]; simp)
  have hrd : rd l (q.length : Int) = c := by rw [← e]; exact rd_app q c s
  have hq : ∀ x ∈ q, 1 ≤ x := fun x hx => (h1 x (by rw [← e]; simp [hx])).1
  have ih := impl_CountChange.ev_0 m hm l hl h1 s (q ++ [c]) (by rw [← e]; simp)
  rw [waysF_snoc] at ih
  have ew : (((q ++ [c]).length : Nat) : Int) = wrap64 ((q.length : Int) + 1) := by rw [w64 (by omega) (by omega)]; simp
  rw [ew] at ih
  have h := impl_CountChange.ev_1 m hm c hc (waysF q) (waysF_range q hq) l (l.length : Int) (q.length : Int) ih (m + 1).toNat c (Int.le_refl _) (by omega)
  refine Ev.step (fun k => ?_) h
  rw [impl_CountChange.l0, if_pos (by omega), if_pos (by omega), if_pos (by omega), hrd]
  congr 1
  refine tab_congr _ _ _ (fun a h0 _ => ?_)
  unfold cwT
  by_cases q2 : a < c
  · rw [if_pos q2, wF_eq c _ hc.1 a h0, if_pos q2]
  rw [if_neg q2]
theorem impl_CountChange.ev (l : List Int) (a : Int) (hl : l.length ≤ 9223372036854775806) : Ev (fun k => impl_CountChange.f k l a) (waysC l a) := by
 unfold impl_CountChange.f
 refine Ev.bind (impl_isAmount.ev l a hl) (Ev.ite (fun c => ?_) (fun c => Ev.val (by rw [waysC, if_neg (fun h => c h.1)])))
 have hc : coinsB l = true ∧ 0 ≤ a ∧ a ≤ 20000 := by
  unfold inB at c
  simp only [Bool.and_eq_true, decide_eq_true_eq] at c
  exact ⟨c.1, c.2.1, c.2.2⟩
 obtain ⟨g, h0, h2⟩ := hc
 have hf := coins_facts g
 rw [w64 (n := a + 1) (by omega) (by omega)]
 refine Ev.pos (by omega) (Ev.pos (by omega) (Ev.bindc rfl (Ev.pos (by rw [List.length_replicate]; omega) ?_)))
 have h := impl_CountChange.ev_0 a ⟨h0, h2⟩ l (by omega) hf.2.2.1 l [] (by simp)
 have e : (List.replicate (a + 1).toNat (0 : Int)).set (0 : Int).toNat 1 = tab (a + 1).toNat (waysF []) := by
  rw [tab_repC, tab_set _ _ _ _ (by omega)]
  refine tab_congr _ _ _ (fun b _ _ => ?_)
  rw [waysF_nil]
 rw [e]
 refine Ev.eq h ?_
 unfold waysC
 by_cases d : waysF l a ≤ 1000000000000000
 · rw [if_pos d, if_pos ⟨c, d⟩]
 rw [if_neg d, if_neg (fun h => d h.2)]
theorem spec_CountChange.ev_1 {R : Int × Bool} (m : Int) (hm : 0 ≤ m ∧ m ≤ 20000) (c : Int) (hc : 1 ≤ c ∧ c ≤ 1000) (f : Int → Int) (hf : ∀ a, 0 ≤ f a ∧ f a ≤ 1000000000000001) (L : List Int) (n i : Int) (next : Ev (fun k => spec_CountChange.l0 k m (tab (m + 1).toNat (wF c f)) L n (wrap64 (i + 1))) R) : ∀ (d : Nat) (v : Int), c ≤ v → m + 1 ≤ v + d → Ev (fun k => spec_CountChange.l1 k m (tab (m + 1).toNat (cwT c f v)) c v L n i) R
 | 0, v, hv, e => by
  refine Ev.step (fun k => ?_) next
  rw [spec_CountChange.l1, if_neg (by omega)]
  congr 1
  refine tab_congr _ _ _ (fun a _ ha => ?_)
  rw [cwT, if_pos (by omega)]
 | d + 1, v, hv, e => by
  by_cases q : v ≤ m
  · have ih := spec_CountChange.ev_1 m hm c hc f hf L n i next d (v + 1) (by omega) (by omega)
    have hw := wF_range c f hc.1 hf (v - c)
    have hfv := hf v
    have e1 : cwT c f v v = f v := by rw [cwT, if_neg (by omega)]
    have e2 : cwT c f v (v - c) = wF c f (v - c) := by rw [cwT, if_pos (by omega)]
    refine Ev.step (fun k => ?_) ih
    rw [spec_CountChange.l1, if_pos q, if_pos (by omega), if_pos (by rw [tab_length]; omega), w64 (n := v - c) (by omega) (by omega), if_pos (by omega), if_pos (by rw [tab_length]; omega), rd_tab _ _ v (by omega) (by omega), rd_tab _ _ (v - c) (by omega) (by omega), e1, e2, w64 (n := f v + wF c f (v - c)) (by omega) (by omega), w64 (n := v + 1) (by omega) (by omega)]
    first | rw [mn_min] | rw [least_min, Option.bind_some]
    rw [tab_set _ _ _ _ (by omega)]
    congr 1
    refine tab_congr _ _ _ (fun a h0 _ => ?_)
    unfold cwT
    by_cases q2 : a = v
    · rw [if_pos q2, if_pos (by omega), wF_eq c f hc.1 a h0, if_neg (by omega), q2]
    rw [if_neg q2]
    by_cases q3 : a < v
    · rw [if_pos q3, if_pos (by omega)]
    rw [if_neg q3, if_neg (by omega)]
  refine Ev.step (fun k => ?_) next
  rw [spec_CountChange.l1, if_neg q]
  congr 1
  refine tab_congr _ _ _ (fun a _ ha => ?_)
  rw [cwT, if_pos (by omega)]
theorem spec_CountChange.ev_0 (m : Int) (hm : 0 ≤ m ∧ m ≤ 20000) (l : List Int) (hl : l.length ≤ 1000) (h1 : ∀ x ∈ l, 1 ≤ x ∧ x ≤ 1000) : ∀ (s q : List Int), q ++ s = l → Ev (fun k => spec_CountChange.l0 k m (tab (m + 1).toNat (waysF q)) l (l.length : Int) (q.length : Int)) (if waysF l m ≤ 1000000000000000 then (waysF l m, true) else (0, false))
 | [], q, e => by
  rw [List.append_nil] at e
  subst e
  refine Ev.step (f := fun _ => some (if waysF q m ≤ 1000000000000000 then (waysF q m, true) else (0, false))) (fun k => ?_) (Ev.val rfl)
  rw [spec_CountChange.l0, if_neg (by omega), if_pos (by omega), if_pos (by rw [tab_length]; omega), rd_tab _ _ m (by omega) (by omega)]
  by_cases c : waysF q m ≤ 1000000000000000
  · rw [if_neg (by omega), if_pos c]
  rw [if_pos (by omega), if_neg c]
 | c :: s, q, e => by
  have hlen : l.length = q.length + (s.length + 1) := by rw [← e]; simp
  have hc := h1 c (by rw [← e]; simp)
  have hrd : rd l (q.length : Int) = c := by rw [← e]; exact rd_app q c s
  have hq : ∀ x ∈ q, 1 ≤ x := fun x hx => (h1 x (by rw [← e]; simp [hx])).1
  have ih := spec_CountChange.ev_0 m hm l hl h1 s (q ++ [c]) (by rw [← e]; simp)
  rw [waysF_snoc] at ih
  have ew : (((q ++ [c]).length : Nat) : Int) = wrap64 ((q.length : Int) + 1) := by rw [w64 (by omega) (by omega)]; simp
  rw [ew] at ih
  have h := spec_CountChange.ev_1 m hm c hc (waysF q) (waysF_range q hq) l (l.length : Int) (q.length : Int) ih (m + 1).toNat c (Int.le_refl _) (by omega)
  refine Ev.step (fun k => ?_) h
  rw [spec_CountChange.l0, if_pos (by omega), if_pos (by omega), if_pos (by omega), hrd]
  congr 1
  refine tab_congr _ _ _ (fun a h0 _ => ?_)
  unfold cwT
  by_cases q2 : a < c
  · rw [if_pos q2, wF_eq c _ hc.1 a h0, if_pos q2]
  rw [if_neg q2]
theorem spec_CountChange.ev (l : List Int) (a : Int) (hl : l.length ≤ 9223372036854775806) : Ev (fun k => spec_CountChange.f k l a) (waysC l a) := by
 unfold spec_CountChange.f
 refine Ev.bind (spec_cnAsked.ev l a hl) (Ev.ite (fun c => ?_) (fun c => Ev.val (by rw [waysC, if_neg (fun h => c h.1)])))
 have hc : coinsB l = true ∧ 0 ≤ a ∧ a ≤ 20000 := by
  unfold inB at c
  simp only [Bool.and_eq_true, decide_eq_true_eq] at c
  exact ⟨c.1, c.2.1, c.2.2⟩
 obtain ⟨g, h0, h2⟩ := hc
 have hf := coins_facts g
 rw [w64 (n := a + 1) (by omega) (by omega)]
 refine Ev.pos (by omega) (Ev.pos (by omega) (Ev.bindc rfl (Ev.pos (by rw [List.length_replicate]; omega) ?_)))
 have h := spec_CountChange.ev_0 a ⟨h0, h2⟩ l (by omega) hf.2.2.1 l [] (by simp)
 have e : (List.replicate (a + 1).toNat (0 : Int)).set (0 : Int).toNat 1 = tab (a + 1).toNat (waysF []) := by
  rw [tab_repC, tab_set _ _ _ _ (by omega)]
  refine tab_congr _ _ _ (fun b _ _ => ?_)
  rw [waysF_nil]
 rw [e]
 refine Ev.eq h ?_
 unfold waysC
 by_cases d : waysF l a ≤ 1000000000000000
 · rw [if_pos d, if_pos ⟨c, d⟩]
 rw [if_neg d, if_neg (fun h => d h.2)]
theorem payN_cons {c : Int} {t : List Int} : ∀ (n : Nat) (a : Int), PayN (c :: t) n a → ∃ j : Nat, j ≤ n ∧ PayN t (n - j) (a - j * c)
 | 0, a, h => ⟨0, Nat.le_refl _, by rw [show a - ((0 : Nat) : Int) * c = a by simp]; exact h⟩
 | n + 1, a, ⟨x, hx, hp⟩ => by
  obtain ⟨j, hj, h⟩ := payN_cons n (a - x) hp
  rcases List.mem_cons.1 hx with q | q
  · refine ⟨j + 1, by omega, ?_⟩
    rw [show n + 1 - (j + 1) = n - j by omega, show a - ((j + 1 : Nat) : Int) * c = a - x - j * c by rw [Int.natCast_succ, Int.add_mul, Int.one_mul, q]; omega]
    exact h
  refine ⟨j, by omega, ?_⟩
  rw [show n + 1 - j = (n - j) + 1 by omega]
  exact ⟨x, q, by rw [show a - j * c - x = a - x - j * c by omega]; exact h⟩
theorem payN_more {t : List Int} (c : Int) : ∀ (n : Nat) (a : Int), PayN t n a → PayN (c :: t) n a
 | 0, _, h => h
 | n + 1, a, ⟨x, hx, hp⟩ => ⟨x, List.mem_cons_of_mem _ hx, payN_more c n _ hp⟩
theorem payN_cons_of {c : Int} {t : List Int} (n j : Nat) (a : Int) (h : PayN t n (a - j * c)) : PayN (c :: t) (j + n) a := by
 have := payN_addG _ _ _ _ (payN_mulG (l := c :: t) (c := c) (by simp) j) (payN_more c n _ h)
 rw [show (j : Int) * c + (a - j * c) = a by omega] at this
 exact this
/-- So few coins pay, and no fewer. -/
def MinP (l : List Int) (p : Nat) (a : Int) : Prop := PayN l p a ∧ ∀ i, i < p → ¬ PayN l i a
theorem minP_few {l : List Int} {p : Nat} {a : Int} (h : MinP l p a) (z : Int) : fewF l z a = p := lst_some h.1 h.2
def Bst (t : List Int) (p : Nat) (c a : Int) (j : Nat) : Prop := ∃ r : Nat, MinP t r (a - j * c) ∧ j + r = p
/-- The first change with so few coins. -/
noncomputable def bstF : List Int → Nat → Int → List Int
 | [], _, _ => []
 | c :: t, p, a => lst (fun j => Bst t p c a j) 0 :: bstF t (p - (lst (fun j => Bst t p c a j) 0).toNat) (a - lst (fun j => Bst t p c a j) 0 * c)
theorem bst_step {c : Int} {t : List Int} {p : Nat} {a : Int} (h : MinP (c :: t) p a) : ∃ j : Nat, Bst t p c a j ∧ (∀ i, i < j → ¬ Bst t p c a i) ∧ MinP t (p - j) (a - j * c) ∧ j ≤ p ∧ bstF (c :: t) p a = (j : Int) :: bstF t (p - j) (a - j * c) := by
 obtain ⟨j0, hj0, hp0⟩ := payN_cons p a h.1
 have hB : Bst t p c a j0 := ⟨p - j0, ⟨hp0, fun i hi hpi => h.2 (j0 + i) (by omega) (payN_cons_of i j0 a hpi)⟩, by omega⟩
 obtain ⟨j, hj, hj'⟩ := least_ex (fun j => Bst t p c a j) j0 hB
 have e : lst (fun j => Bst t p c a j) 0 = j := lst_some hj hj'
 obtain ⟨r, hr, hs⟩ := hj
 refine ⟨j, ⟨r, hr, hs⟩, hj', by rw [show p - j = r by omega]; exact hr, by omega, ?_⟩
 rw [bstF, e, Int.toNat_natCast]
theorem bst_test {t : List Int} (h1 : ∀ x ∈ t, 1 ≤ x) {p : Nat} {c a : Int} {i : Nat} {z : Int} (hz : z < 0 ∨ a - i * c < z) : Bst t p c a i ↔ (0 ≤ fewF t z (a - i * c) ∧ fewF t z (a - i * c) ≤ a - i * c ∧ (i : Int) + fewF t z (a - i * c) = p) := by
 constructor
 · rintro ⟨r, hr, hs⟩
   rw [minP_few hr]
   have := payN_ge h1 _ _ hr.1
   exact ⟨by omega, this, by omega⟩
 rintro ⟨h2, h3, h4⟩
 rcases fewF_cases h1 (a - i * c) with ⟨r, h5, h6, _, e⟩ | ⟨_, e⟩
 · rw [e] at h4
   exact ⟨r, ⟨h5, h6⟩, by omega⟩
 rw [e] at h2 h3
 omega
theorem min_nil {p : Nat} {a : Int} (h : MinP [] p a) : p = 0 ∧ a = 0 := by
 cases p with
 | zero => exact ⟨rfl, h.1⟩
 | succ p => obtain ⟨x, hx, _⟩ := h.1; cases hx
/-- So many coins of each kind come to so much. -/
def dotL : List Int → List Int → Int
 | c :: l, k :: m => k * c + dotL l m
 | _, _ => 0
theorem bst_pay : ∀ (l : List Int) (p : Nat) (a : Int), (∀ x ∈ l, 1 ≤ x) → MinP l p a → (bstF l p a).length = l.length ∧ (∀ x ∈ bstF l p a, 0 ≤ x) ∧ (bstF l p a).sum = p ∧ dotL l (bstF l p a) = a
 | [], p, a, _, h => by
  obtain ⟨e1, e2⟩ := min_nil h
  rw [e1, e2]
  exact ⟨rfl, fun x hx => (by cases hx), rfl, rfl⟩
 | c :: t, p, a, h1, h => by
  obtain ⟨j, _, _, hm, hj, e⟩ := bst_step h
  obtain ⟨i1, i2, i3, i4⟩ := bst_pay t (p - j) (a - j * c) (fun x hx => h1 x (by simp [hx])) hm
  rw [e]
  refine ⟨by simp [i1], fun x hx => ?_, by rw [List.sum_cons, i3]; omega, by rw [dotL, i4]; omega⟩
  rcases List.mem_cons.1 hx with q | q
  · rw [q]; exact Int.natCast_nonneg j
  exact i2 x q
/-- The best change as told. -/
noncomputable def bestC (l : List Int) (a : Int) : List Int × Bool := if (coinsB l && inB a 0 20000) = true ∧ 0 ≤ fewF l (-1) a then (bstF l (fewF l (-1) a).toNat a, true) else ([], false)
/-- A table of N rows. -/
def tabX (N : Nat) (f : Int → List Int) : List (List Int) := (List.range N).map fun (i : Nat) => f (i : Int)
theorem tabX_length (N : Nat) (f : Int → List Int) : (tabX N f).length = N := by simp [tabX]
theorem rd_tabX (N : Nat) (f : Int → List Int) (i : Int) (h0 : 0 ≤ i) (h1 : i < N) : rd_L2 (tabX N f) i = f i := by
 obtain ⟨n, rfl⟩ := Int.eq_ofNat_of_zero_le h0
 simp only [rd_L2, tabX, List.getD_eq_getElem?_getD, Int.toNat_natCast]
 rw [List.getElem?_eq_getElem (by simp; omega)]
 simp
theorem tabX_congr (N : Nat) (f g : Int → List Int) (h : ∀ i : Int, 0 ≤ i → i < N → f i = g i) : tabX N f = tabX N g := by
 unfold tabX
 apply List.map_congr_left
 intro i hi
 exact h i (by omega) (by have := List.mem_range.1 hi; omega)
theorem tabX_set (N : Nat) (f : Int → List Int) (i : Int) (v : List Int) (h0 : 0 ≤ i) : (tabX N f).set i.toNat v = tabX N (fun j => if j = i then v else f j) := by
 obtain ⟨n, rfl⟩ := Int.eq_ofNat_of_zero_le h0
 apply List.ext_getElem
 · simp [tabX]
 intro m h1 h2
 simp only [tabX, List.getElem_set, List.getElem_map, List.getElem_range, Int.toNat_natCast]
 by_cases q : n = m
 · subst q; simp
 rw [if_neg q, if_neg (by omega)]
theorem tabX_rep (N : Nat) : List.replicate N ([] : List Int) = tabX N (fun _ => []) := by
 apply List.ext_getElem
 · simp [tabX]
 intro i h1 h2; simp [tabX]
noncomputable def bcR (l : List Int) (m k : Int) : List Int := tab (m + 1).toNat (fewF (l.drop k.toNat) (m + 1))
theorem impl_BestChange.ev_2 {R : List Int × Bool} (m : Int) (hm : 0 ≤ m ∧ m ≤ 20000) (l : List Int) (hl : l.length ≤ 8) (c : Int) (t : List Int) (h1 : ∀ x ∈ c :: t, 1 ≤ x ∧ x ≤ 1000) (X : List (List Int)) (i : Nat) (hi : i < l.length) (hX : (X.length : Int) = l.length + 1) (hX0 : rd_L2 X (i : Int) = tab (m + 1).toNat (fewF (c :: t) (m + 1))) (hX1 : rd_L2 X ((i : Int) + 1) = tab (m + 1).toNat (fewF t (m + 1))) (a : Int) (ha : 0 ≤ a) (ham : a ≤ m) (p : Nat) (hp : MinP (c :: t) p a) (out : List Int) (hout : out.length = i) (j : Nat) (hj : Bst t p c a j) (hj' : ∀ i, i < j → ¬ Bst t p c a i)
 (next : Ev (fun k => impl_BestChange.l1 k (a - j * c) X (out ++ [(j : Int)]) l (l.length : Int) (wrap64 ((i : Int) + 1))) R) :
 ∀ (d v : Nat), v + d = j → Ev (fun k => impl_BestChange.l2 k a X out (i : Int) c (v : Int) l (l.length : Int) (i : Int)) R := by
 have hc := h1 c (by simp)
 have ht : ∀ x ∈ t, 1 ≤ x := fun x hx => (h1 x (by simp [hx])).1
 have hpm := payN_ge (fun x hx => (h1 x hx).1) p a hp.1
 obtain ⟨r, hr, hs⟩ := hj
 have hge := payN_ge ht r _ hr.1
 have hF := minP_few hp (m + 1)
 intro d
 induction d with
 | zero =>
  intro v hv
  obtain rfl : v = j := by omega
  have hT := (bst_test ht (p := p) (c := c) (a := a) (i := v) (z := m + 1) (.inr (by have := Int.mul_nonneg (Int.natCast_nonneg v) (show 0 ≤ c by omega); omega))).1 ⟨r, hr, hs⟩
  have hvc := Int.mul_nonneg (Int.natCast_nonneg v) (show 0 ≤ c by omega)
  have e1 : rd (tab (m + 1).toNat (fewF t (m + 1))) (a - v * c) = fewF t (m + 1) (a - v * c) := rd_tab _ _ _ (by omega) (by omega)
  have e2 : rd (tab (m + 1).toNat (fewF (c :: t) (m + 1))) a = p := by rw [rd_tab _ _ _ ha (by omega), hF]
  refine Ev.step (fun k => ?_) next
  rw [impl_BestChange.l2, w64 (n := (i : Int) + 1) (by omega) (by omega), w64 (n := (v : Int) * c) (by omega) (by omega), w64 (n := a - v * c) (by omega) (by omega), hX0, hX1, e1, e2]
  generalize fewF t (m + 1) (a - v * c) = ff at hT
  rw [if_pos (by omega), if_pos (by omega), if_pos (by omega), if_pos (by rw [tab_length]; omega), if_pos (by omega), if_pos (by omega), if_pos ha, if_pos (by rw [tab_length]; omega), w64 (n := (v : Int) + ff) (by omega) (by omega), if_pos hT.2.2, if_neg (by omega), if_pos (by omega)]
 | succ d ih =>
  intro v hv
  have h := ih (v + 1) (by omega)
  have hvc := Int.mul_nonneg (Int.natCast_nonneg v) (show 0 ≤ c by omega)
  have hvj : (v : Int) * c ≤ j * c := Int.mul_le_mul_of_nonneg_right (by omega) (by omega)
  have hT := mt (bst_test ht (p := p) (c := c) (a := a) (i := v) (z := m + 1) (.inr (by omega))).2 (hj' v (by omega))
  have hR : 0 ≤ fewF t (m + 1) (a - v * c) ∧ fewF t (m + 1) (a - v * c) ≤ m + 1 := by
   rcases fewF_cases ht (a - v * c) with ⟨r, _, _, h6, e⟩ | ⟨_, e⟩
   · rw [e]; omega
   rw [e]; omega
  have e1 : rd (tab (m + 1).toNat (fewF t (m + 1))) (a - v * c) = fewF t (m + 1) (a - v * c) := rd_tab _ _ _ (by omega) (by omega)
  have e2 : rd (tab (m + 1).toNat (fewF (c :: t) (m + 1))) a = p := by rw [rd_tab _ _ _ ha (by omega), hF]
  refine Ev.step (fun k => ?_) h
  rw [impl_BestChange.l2, w64 (n := (i : Int) + 1) (by omega) (by omega), w64 (n := (v : Int) * c) (by omega) (by omega), w64 (n := a - v * c) (by omega) (by omega), hX0, hX1, e1, e2]
  generalize fewF t (m + 1) (a - v * c) = ff at hT hR
  rw [if_pos (by omega), if_pos (by omega), if_pos (by omega), if_pos (by rw [tab_length]; omega), if_pos (by omega), if_pos (by omega), if_pos ha, if_pos (by rw [tab_length]; omega), w64 (n := (v : Int) + ff) (by omega) (by omega), w64 (n := (v : Int) + 1) (by omega) (by omega)]
  by_cases q : (v : Int) + ff = p
  · rw [if_pos q, if_pos (by have : ¬ ff ≤ a - v * c := fun h => hT ⟨hR.1, h, q⟩; omega)]; rfl
  rw [if_neg q]; rfl
theorem impl_BestChange.ev_1 (m : Int) (hm : 0 ≤ m ∧ m ≤ 20000) (l : List Int) (hl : l.length ≤ 8) (h1 : ∀ x ∈ l, 1 ≤ x ∧ x ≤ 1000) : ∀ (s q : List Int) (p : Nat) (a : Int) (out : List Int), q ++ s = l → 0 ≤ a → a ≤ m → MinP s p a → out.length = q.length → Ev (fun k => impl_BestChange.l1 k a (tabX (l.length + 1) (bcR l m)) out l (l.length : Int) (q.length : Int)) (out ++ bstF s p a, true)
 | [], q, p, a, out, e, h0, h2, hp, ho => by
  rw [List.append_nil] at e
  subst e
  refine Ev.step (f := fun _ => some (out ++ bstF [] p a, true)) (fun k => ?_) (Ev.val rfl)
  rw [impl_BestChange.l1, if_neg (by omega), bstF, List.append_nil]
 | c :: t, q, p, a, out, e, h0, h2, hp, ho => by
  have hlen : l.length = q.length + (t.length + 1) := by rw [← e]; simp
  have hct : ∀ x ∈ c :: t, 1 ≤ x ∧ x ≤ 1000 := fun x hx => h1 x (by rw [← e]; exact List.mem_append_right _ hx)
  have hrd : rd l (q.length : Int) = c := by rw [← e]; exact rd_app q c t
  obtain ⟨j, hj, hj', hm', hjp, eb⟩ := bst_step hp
  have hge := payN_ge (fun x hx => (hct x (by simp [hx])).1) _ _ hm'.1
  have hjc := Int.mul_nonneg (Int.natCast_nonneg j) (show 0 ≤ c by have := (hct c (by simp)).1; omega)
  have ih := impl_BestChange.ev_1 m hm l hl h1 t (q ++ [c]) (p - j) (a - j * c) (out ++ [(j : Int)]) (by rw [← e]; simp) (by omega) (by omega) hm' (by simp [ho])
  have ew : (((q ++ [c]).length : Nat) : Int) = wrap64 ((q.length : Int) + 1) := by rw [w64 (by omega) (by omega)]; simp
  rw [ew] at ih
  have hd0 : l.drop q.length = c :: t := by rw [← e, List.drop_left]
  have hd1 : l.drop (q.length + 1) = t := by rw [← e]; simp
  have h := impl_BestChange.ev_2 m hm l hl c t hct (tabX (l.length + 1) (bcR l m)) q.length (by omega) (by rw [tabX_length]; omega)
   (by rw [rd_tabX _ _ _ (by omega) (by omega), bcR, Int.toNat_natCast, hd0])
   (by rw [rd_tabX _ _ _ (by omega) (by omega), bcR, show ((q.length : Int) + 1).toNat = q.length + 1 by omega, hd1])
   a h0 h2 p hp out ho j hj hj' ih j 0 (by omega)
  rw [eb]
  refine Ev.step (fun k => ?_) (Ev.eq h (by simp))
  rw [impl_BestChange.l1, if_pos (by omega), if_pos (by omega), if_pos (by omega), hrd]; rfl
theorem impl_BestChange.ev_0 {R : List Int × Bool} (m : Int) (hm : 0 ≤ m ∧ m ≤ 20000) (l : List Int) (hl : l.length ≤ 8) (h1 : ∀ x ∈ l, 1 ≤ x ∧ x ≤ 1000) (next : Ev (fun k => impl_BestChange.l1 k m (tabX (l.length + 1) (bcR l m)) [] l (l.length : Int) 0) R) : ∀ (d i : Nat), i + d = l.length → Ev (fun k => impl_BestChange.l0 k l m (tabX (l.length + 1) (fun k => if k < i then bcR l m k else [])) (l.length : Int) (i : Int)) R
 | 0, i, e => by
  have hf := impl_fewStamps.ev [] (by simp) (fun x hx => (by cases hx)) m (by omega)
  refine Ev.step (f := fun k => (impl_fewStamps.f k ([] : List Int) m).bind fun t => if 0 ≤ (l.length : Int) then (if (l.length : Int) < ((tabX (l.length + 1) (fun k => if k < (i : Int) then bcR l m k else [])).length : Int) then impl_BestChange.l1 k m ((tabX (l.length + 1) (fun k => if k < (i : Int) then bcR l m k else [])).set ((l.length : Int) : Int).toNat t) [] l (l.length : Int) 0 else none) else none) (fun k => by rw [impl_BestChange.l0, if_neg (by omega)]) (Ev.bind hf (Ev.pos (by omega) (Ev.pos (by rw [tabX_length]; omega) ?_)))
  rw [tabX_set _ _ _ _ (by omega)]
  refine Ev.congr (fun k => ?_) next
  congr 1
  refine tabX_congr _ _ _ (fun k h0 hk => ?_)
  by_cases q : k = (l.length : Int)
  · rw [if_pos q, q, bcR, Int.toNat_natCast, List.drop_length]
  rw [if_neg q, if_pos (by omega)]
 | d + 1, i, e => by
  have ih := impl_BestChange.ev_0 m hm l hl h1 next d (i + 1) (by omega)
  have hf := impl_fewStamps.ev (l.drop i) (by rw [List.length_drop]; omega) (fun x hx => by have := h1 x (List.mem_of_mem_drop hx); omega) m (by omega)
  refine Ev.step (f := fun k => (impl_fewStamps.f k (l.drop i) m).bind fun t => if (i : Int) < ((tabX (l.length + 1) (fun k => if k < (i : Int) then bcR l m k else [])).length : Int) then impl_BestChange.l0 k l m ((tabX (l.length + 1) (fun k => if k < (i : Int) then bcR l m k else [])).set i t) (l.length : Int) (wrap64 ((i : Int) + 1)) else none) (fun k => by rw [impl_BestChange.l0, if_pos (by omega), if_pos (by omega), if_pos (by omega), Int.toNat_natCast]) (Ev.bind hf (Ev.pos (by rw [tabX_length]; omega) ?_))
  rw [show (tabX (l.length + 1) fun k => if k < (i : Int) then bcR l m k else []).set i (tab (m + 1).toNat (fewF (l.drop i) (m + 1))) = tabX (l.length + 1) (fun k => if k < ((i + 1 : Nat) : Int) then bcR l m k else []) from by
   have := tabX_set (l.length + 1) (fun k => if k < (i : Int) then bcR l m k else []) (i : Int) (tab (m + 1).toNat (fewF (l.drop i) (m + 1))) (by omega)
   rw [Int.toNat_natCast] at this
   rw [this]
   refine tabX_congr _ _ _ (fun k h0 hk => ?_)
   by_cases q : k = (i : Int)
   · rw [if_pos q, if_pos (by omega), q, bcR, Int.toNat_natCast]
   rw [if_neg q]
   by_cases q2 : k < (i : Int)
   · rw [if_pos q2, if_pos (by omega)]
   rw [if_neg q2, if_neg (by omega)], w64 (n := (i : Int) + 1) (by omega) (by omega)]
  exact ih
theorem impl_BestChange.ev (l : List Int) (a : Int) (hl : l.length ≤ 9223372036854775806) : Ev (fun k => impl_BestChange.f k l a) (bestC l a) := by
 unfold impl_BestChange.f
 refine Ev.bind (impl_FewestCoins.ev l a hl) (Ev.ite (fun c => ?_) (fun c => Ev.val ?_))
 · have hA : (coinsB l && inB a 0 20000) = true ∧ 0 ≤ fewF l (-1) a := by
    apply Classical.byContradiction
    intro q
    rw [fewC, if_neg q] at c
    cases c
   obtain ⟨g, h0, h2, h1, hl8⟩ := asked_facts hA.1
   have hf := coins_facts g
   rw [w64 (n := (l.length : Int) + 1) (by omega) (by omega)]
   refine Ev.pos (by omega) (Ev.pos (by omega) ?_)
   have hmin : MinP l (fewF l (-1) a).toNat a := by
    rcases fewF_cases h1 a with ⟨p, h3, h4, _, e⟩ | ⟨_, e⟩
    · rw [e, Int.toNat_natCast]; exact ⟨h3, h4⟩
    have := hA.2; rw [e] at this; omega
   have h := impl_BestChange.ev_1 a ⟨h0, h2⟩ l hl8 hf.2.2.1 l [] _ a [] (by simp) h0 (Int.le_refl _) hmin rfl
   have h' := impl_BestChange.ev_0 a ⟨h0, h2⟩ l hl8 hf.2.2.1 h l.length 0 (by omega)
   rw [show ((l.length : Int) + 1).toNat = l.length + 1 by omega, tabX_rep]
   refine Ev.congr (fun k => ?_) (Ev.eq h' (by rw [bestC, if_pos hA, List.nil_append]))
   first | rfl | (congr 1; refine tabX_congr _ _ _ (fun k h0 hk => ?_); rw [if_neg (by omega)])
 unfold bestC
 unfold fewC at c
 split
 · rename_i d; rw [if_pos d] at c; exact absurd rfl c
 rfl
theorem spec_BestChange.ev_1 {R : List Int × Bool} (l : List Int) (hl : l.length ≤ 8) (c : Int) (t : List Int) (h1 : ∀ x ∈ c :: t, 1 ≤ x ∧ x ≤ 1000) (i : Nat) (a : Int) (ha : 0 ≤ a) (ham : a ≤ 20000) (p : Nat) (hp : MinP (c :: t) p a) (out : List Int) (hout : out.length = i) (j : Nat) (hj : Bst t p c a j) (hj' : ∀ i, i < j → ¬ Bst t p c a i)
 (next : Ev (fun k => spec_BestChange.l0 k l (a - j * c) (out ++ (j : Int) :: List.replicate t.length 0) ((p - j : Nat) : Int) l (l.length : Int) (wrap64 ((i : Int) + 1))) R) :
 ∀ (d v : Nat), v + d = j → Ev (fun k => spec_BestChange.l1 k l (a - v * c) (out ++ (v : Int) :: List.replicate t.length 0) ((p : Int) - v) (i : Int) c (tab (a + 1).toNat (fewF t (-1))) l (l.length : Int) (i : Int)) R := by
 have hc := h1 c (by simp)
 have ht : ∀ x ∈ t, 1 ≤ x := fun x hx => (h1 x (by simp [hx])).1
 have hpm := payN_ge (fun x hx => (h1 x hx).1) p a hp.1
 obtain ⟨r, hr, hs⟩ := hj
 have hge := payN_ge ht r _ hr.1
 intro d
 induction d with
 | zero =>
  intro v hv
  obtain rfl : v = j := by omega
  have hvc := Int.mul_nonneg (Int.natCast_nonneg v) (show 0 ≤ c by omega)
  have e1 : rd (tab (a + 1).toNat (fewF t (-1))) (a - v * c) = r := by rw [rd_tab _ _ _ (by omega) (by omega), minP_few hr]
  refine Ev.step (fun k => ?_) next
  rw [spec_BestChange.l1, e1, if_pos (by omega), if_pos (by rw [tab_length]; omega), if_neg (by omega), if_pos (by omega), show (p : Int) - v = ((p - v : Nat) : Int) by omega]
 | succ d ih =>
  intro v hv
  have h := ih (v + 1) (by omega)
  have hvc := Int.mul_nonneg (Int.natCast_nonneg v) (show 0 ≤ c by omega)
  have hvj : ((v + 1 : Nat) : Int) * c ≤ j * c := Int.mul_le_mul_of_nonneg_right (by omega) (by omega)
  have hv1 : ((v + 1 : Nat) : Int) * c = v * c + c := by rw [Int.natCast_succ, Int.add_mul, Int.one_mul]
  have hT := mt (bst_test ht (p := p) (c := c) (a := a) (i := v) (z := -1) (.inl (by omega))).2 (hj' v (by omega))
  have hR : -1 ≤ fewF t (-1) (a - v * c) ∧ fewF t (-1) (a - v * c) ≤ a - v * c := by
   rcases fewF_cases ht (a - v * c) with ⟨r, _, _, h6, e⟩ | ⟨_, e⟩
   · rw [e]; omega
   rw [e]; omega
  have e1 : rd (tab (a + 1).toNat (fewF t (-1))) (a - v * c) = fewF t (-1) (a - v * c) := rd_tab _ _ _ (by omega) (by omega)
  have e2 : rd (out ++ (v : Int) :: List.replicate t.length 0) (i : Int) = v := by rw [← hout]; exact rd_app out _ _
  have e3 : (out ++ (v : Int) :: List.replicate t.length 0).set (i : Int).toNat ((v : Int) + 1) = out ++ ((v + 1 : Nat) : Int) :: List.replicate t.length 0 := by
   rw [← hout, Int.toNat_natCast, List.set_append_right _ _ (Nat.le_refl _), Nat.sub_self]; rfl
  have e4 : (i : Int) < ((out ++ (v : Int) :: List.replicate t.length 0).length : Int) := by rw [List.length_append, hout, List.length_cons]; omega
  refine Ev.step (fun k => ?_) h
  rw [spec_BestChange.l1, e1, if_pos (by omega), if_pos (by rw [tab_length]; omega)]
  generalize fewF t (-1) (a - v * c) = ff at hT hR
  rw [e2, w64 (n := (v : Int) + 1) (by omega) (by omega), w64 (n := a - v * c - c) (by omega) (by omega), w64 (n := (p : Int) - v - 1) (by omega) (by omega), e3, show a - v * c - c = a - ((v + 1 : Nat) : Int) * c by omega, show (p : Int) - v - 1 = (p : Int) - ((v + 1 : Nat) : Int) by omega]
  by_cases q : ff < 0
  · rw [if_pos q, if_pos (by omega), if_pos e4]
  rw [if_neg q, if_neg (fun q2 => hT ⟨by omega, hR.2, by omega⟩), if_pos (by omega), if_pos e4]
theorem spec_BestChange.ev_0 (l : List Int) (hl : l.length ≤ 8) (h1 : ∀ x ∈ l, 1 ≤ x ∧ x ≤ 1000) : ∀ (s q : List Int) (p : Nat) (a : Int) (out : List Int), q ++ s = l → 0 ≤ a → a ≤ 20000 → MinP s p a → out.length = q.length → Ev (fun k => spec_BestChange.l0 k l a (out ++ List.replicate s.length 0) (p : Int) l (l.length : Int) (q.length : Int)) (out ++ bstF s p a, true)
 | [], q, p, a, out, e, h0, h2, hp, ho => by
  rw [List.append_nil] at e
  subst e
  refine Ev.step (f := fun _ => some (out ++ bstF [] p a, true)) (fun k => ?_) (Ev.val rfl)
  rw [spec_BestChange.l0, if_neg (by omega), bstF]; rfl
 | c :: t, q, p, a, out, e, h0, h2, hp, ho => by
  have hlen : l.length = q.length + (t.length + 1) := by rw [← e]; simp
  have hct : ∀ x ∈ c :: t, 1 ≤ x ∧ x ≤ 1000 := fun x hx => h1 x (by rw [← e]; exact List.mem_append_right _ hx)
  have hrd : rd l (q.length : Int) = c := by rw [← e]; exact rd_app q c t
  obtain ⟨j, hj, hj', hm', hjp, eb⟩ := bst_step hp
  have hge := payN_ge (fun x hx => (hct x (by simp [hx])).1) _ _ hm'.1
  have hjc := Int.mul_nonneg (Int.natCast_nonneg j) (show 0 ≤ c by have := (hct c (by simp)).1; omega)
  have ih := spec_BestChange.ev_0 l hl h1 t (q ++ [c]) (p - j) (a - j * c) (out ++ [(j : Int)]) (by rw [← e]; simp) (by omega) (by omega) hm' (by simp [ho])
  have ew : (((q ++ [c]).length : Nat) : Int) = wrap64 ((q.length : Int) + 1) := by rw [w64 (by omega) (by omega)]; simp
  rw [ew, List.append_assoc, List.singleton_append] at ih
  have hd1 : l.drop (q.length + 1) = t := by rw [← e]; simp
  have h := spec_BestChange.ev_1 l hl c t hct q.length a h0 h2 p hp out ho j hj hj' ih j 0 (by omega)
  have hf := spec_cnFewer.ev t (by omega) (fun x hx => by have := hct x (by simp [hx]); omega) a (by omega)
  rw [eb]
  refine Ev.step (f := fun k => (spec_cnFewer.f k t a).bind fun r => spec_BestChange.l1 k l a (out ++ List.replicate (c :: t).length 0) (p : Int) (q.length : Int) c r l (l.length : Int) (q.length : Int)) (fun k => ?_) (Ev.bind hf ?_)
  · rw [spec_BestChange.l0, if_pos (by omega), if_pos (by omega), if_pos (by omega), w64 (n := (q.length : Int) + 1) (by omega) (by omega), if_pos (by omega), if_pos (by omega), hrd, show ((q.length : Int) + 1).toNat = q.length + 1 by omega, hd1]
  refine Ev.congr (fun k => ?_) (Ev.eq h (by simp))
  simp [List.replicate_succ]
theorem spec_BestChange.ev (l : List Int) (a : Int) (hl : l.length ≤ 9223372036854775806) : Ev (fun k => spec_BestChange.f k l a) (bestC l a) := by
 unfold spec_BestChange.f
 refine Ev.bind (spec_cnAsked.ev l a hl) (Ev.ite (fun c => ?_) (fun c => ?_))
 · obtain ⟨g, h0, h2, h1, hl8⟩ := asked_facts c
   have hf := coins_facts g
   have hF := spec_cnFew.ev l (by omega) (fun x hx => by have := hf.2.2.1 x hx; omega) a (by omega)
   refine Ev.bind hF (Ev.pos h0 (Ev.pos (by rw [tab_length]; omega) ?_))
   rw [rd_tab _ _ _ h0 (by omega)]
   rcases fewF_cases h1 a with ⟨p, h3, h4, _, e⟩ | ⟨_, e⟩
   · rw [e, decide_eq_false (by omega)]
     have h := spec_BestChange.ev_0 l hl8 hf.2.2.1 l [] p a [] (by simp) h0 h2 ⟨h3, h4⟩ rfl
     refine Ev.step (f := fun k => (spec_cnFew.f k l a).bind fun t => if 0 ≤ a then (if a < (t.length : Int) then spec_BestChange.l0 k l a (List.replicate ((l.length : Int) : Int).toNat 0) (rd t a) l (l.length : Int) 0 else none) else none) (fun k => ?_) (Ev.bind hF (Ev.pos h0 (Ev.pos (by rw [tab_length]; omega) ?_)))
     · rw [spec_BestChange.j0, if_neg (by decide), if_pos (by omega), if_pos (by omega)]
     rw [rd_tab _ _ _ h0 (by omega), e, Int.toNat_natCast]
     refine Ev.eq h ?_
     rw [bestC, e, if_pos ⟨c, by omega⟩, Int.toNat_natCast, List.nil_append]
   rw [e, decide_eq_true (by omega)]
   refine Ev.step (f := fun _ => some ([], false)) (fun k => by rw [spec_BestChange.j0, if_pos rfl]) (Ev.val ?_)
   rw [bestC, e, if_neg (fun h => by have := h.2; omega)]
 refine Ev.step (f := fun _ => some ([], false)) (fun k => by rw [spec_BestChange.j0, if_pos rfl]) (Ev.val ?_)
 rw [bestC, if_neg (fun h => c h.1)]
theorem spec_FewestCoins.ev' (l : List Int) (a : Int) (hl : l.length ≤ 9223372036854775806) : Ev (fun k => spec_FewestCoins.f k l a) (fewC l a) := by
 unfold spec_FewestCoins.f
 refine Ev.bind (spec_cnAsked.ev l a hl) (Ev.ite (fun c => ?_) (fun c => Ev.val (by rw [fewC, if_neg (fun h => c h.1)])))
 obtain ⟨g, h0, h2, h1, hl8⟩ := asked_facts c
 have hf := coins_facts g
 refine Ev.bind (spec_cnFew.ev l (by omega) (fun x hx => by have := hf.2.2.1 x hx; omega) a (by omega)) (Ev.pos h0 (Ev.pos (by rw [tab_length]; omega) ?_))
 rw [rd_tab _ _ _ h0 (by omega), fewC]
 by_cases q : fewF l (-1) a < 0
 · exact Ev.pos q (Ev.val (by rw [if_neg (fun h => absurd h.2 (Int.not_le.2 q))]))
 exact Ev.neg q (Ev.val (by rw [if_pos ⟨c, Int.not_lt.1 q⟩]))
theorem flt_snoc (p : Int → Bool) (i : Nat) : (rg 0 (i + 1)).filter p = (rg 0 i).filter p ++ (if p (i : Int) = true then [(i : Int)] else []) := by
 rw [rg_snoc, List.filter_append, Nat.zero_add]; congr 1
 simp only [List.filter_cons, List.filter_nil]
theorem flt_le (p : Int → Bool) (i : Nat) : ((rg 0 i).filter p).length ≤ i := by
 have := List.length_filter_le p (rg 0 i)
 rw [rg_length] at this
 exact this
theorem impl_failures.ev_l (l : List Int) (g : coinsB l = true) (m : Int) (hm : 0 ≤ m ∧ m ≤ 10000000) : ∀ (d i : Nat), (i : Int) + d = m + 1 → Ev (fun k => impl_failures.l0 k l m ((rg 0 i).filter fun a => failB l a) (tab (m + 1).toNat (fewF l (m + 1))) ((tab (m + 1).toNat (fewF l (m + 1))).length : Int) (i : Int)) (failL l m) := by
 have hf := coins_facts g
 have h1 : ∀ x ∈ l, 1 ≤ x := fun x hx => (hf.2.2.1 x hx).1
 intro d
 induction d with
 | zero =>
  intro i hi
  refine Ev.step (f := fun _ => some ((rg 0 i).filter fun a => failB l a)) (fun k => ?_) (Ev.val ?_)
  · rw [impl_failures.l0, if_neg (by rw [tab_length]; omega)]
  unfold failL; rw [show (m + 1).toNat = i by omega]
 | succ d ih =>
  intro i hi
  have h := ih (i + 1) (by omega)
  have hfl := flt_le (fun a => failB l a) i
  have hs := flt_snoc (fun a => failB l a) i
  have ew : wrap64 ((i : Int) + 1) = ((i + 1 : Nat) : Int) := by rw [w64 (by omega) (by omega)]; omega
  rw [hs, ← ew] at h
  have hrd : rd (tab (m + 1).toNat (fewF l (m + 1))) (i : Int) = fewF l (m + 1) (i : Int) := rd_tab _ _ _ (by omega) (by omega)
  obtain ⟨s1, s2, s3, s4, s5⟩ := gr_sum h1 (i : Int) (by omega)
  have hgr := impl_greedy.ev l (by omega) h1 (i : Int) (by omega) (by omega)
  have hlen : (i : Int) < ((tab (m + 1).toNat (fewF l (m + 1))).length : Int) := by rw [tab_length]; omega
  have step0 : ∀ {f : Nat → Option (List Int)}, Ev f (failL l m) → (∀ k, (if rd (tab (m + 1).toNat (fewF l (m + 1))) (i : Int) > m then (impl_failures.l0 k l m ((rg 0 i).filter fun a => failB l a) (tab (m + 1).toNat (fewF l (m + 1))) ((tab (m + 1).toNat (fewF l (m + 1))).length : Int) (wrap64 ((i : Int) + 1))) else ((impl_greedy.f l (i : Int)).bind fun bt392 => (if bt392.2 = true then ((impl_total.f k bt392.1).bind fun t396 => (if t396 > (rd (tab (m + 1).toNat (fewF l (m + 1))) (i : Int)) then (if ((rg 0 i).filter fun a => failB l a).length < 17592186044416 then (impl_failures.l0 k l m (((rg 0 i).filter fun a => failB l a) ++ [(i : Int)]) (tab (m + 1).toNat (fewF l (m + 1))) ((tab (m + 1).toNat (fewF l (m + 1))).length : Int) (wrap64 ((i : Int) + 1))) else (none)) else (impl_failures.l0 k l m ((rg 0 i).filter fun a => failB l a) (tab (m + 1).toNat (fewF l (m + 1))) ((tab (m + 1).toNat (fewF l (m + 1))).length : Int) (wrap64 ((i : Int) + 1))))) else (if ((rg 0 i).filter fun a => failB l a).length < 17592186044416 then (impl_failures.l0 k l m (((rg 0 i).filter fun a => failB l a) ++ [(i : Int)]) (tab (m + 1).toNat (fewF l (m + 1))) ((tab (m + 1).toNat (fewF l (m + 1))).length : Int) (wrap64 ((i : Int) + 1))) else (none))))) = f k) → Ev (fun k => impl_failures.l0 k l m ((rg 0 i).filter fun a => failB l a) (tab (m + 1).toNat (fewF l (m + 1))) ((tab (m + 1).toNat (fewF l (m + 1))).length : Int) (i : Int)) (failL l m) := by
   intro f hE he
   refine Ev.step (fun k => ?_) hE
   rw [impl_failures.l0, if_pos hlen, if_pos (by omega), if_pos hlen]
   exact he k
  rcases fewF_cases h1 (i : Int) with ⟨p, p1, p2, p3, p4⟩ | ⟨p1, p4⟩
  · by_cases c : grE l.reverse (i : Int) = 0
    · by_cases c2 : (p : Int) < (grR l.reverse (i : Int)).sum
      · have hb : failB l (i : Int) = true := by unfold failB; rw [p4, decide_eq_true (show (0 : Int) ≤ p by omega), decide_eq_true c2]; simp
        rw [hb, if_pos rfl] at h
        refine step0 ?_ (fun k => by rw [if_neg (by rw [hrd, p4]; omega), hgr, Option.bind_some, if_pos (by simp [c])])
        refine Ev.bind (impl_total.ev (grR l.reverse (i : Int)).reverse (by omega) s1 (by omega)) ?_
        exact Ev.pos (by rw [hrd, p4, s2]; omega) (Ev.pos (by omega) h)
      have hb : failB l (i : Int) = false := by unfold failB; rw [decide_eq_false (show ¬ (fewF l (-1) (i : Int) < (grR l.reverse (i : Int)).sum) by rw [p4]; exact c2)]; simp [c]
      rw [hb, if_neg (by decide), List.append_nil] at h
      refine step0 ?_ (fun k => by rw [if_neg (by rw [hrd, p4]; omega), hgr, Option.bind_some, if_pos (by simp [c])])
      refine Ev.bind (impl_total.ev (grR l.reverse (i : Int)).reverse (by omega) s1 (by omega)) ?_
      exact Ev.neg (by rw [hrd, p4, s2]; omega) h
    have hb : failB l (i : Int) = true := by unfold failB; rw [p4, decide_eq_true (show (0 : Int) ≤ p by omega)]; simp [c]
    rw [hb, if_pos rfl] at h
    refine step0 ?_ (fun k => by rw [if_neg (by rw [hrd, p4]; omega), hgr, Option.bind_some, if_neg (by simp [c])])
    exact Ev.pos (by omega) h
  have hb : failB l (i : Int) = false := by unfold failB; rw [p4]; rfl
  rw [hb, if_neg (by decide), List.append_nil] at h
  exact step0 h (fun k => by rw [if_pos (by rw [hrd, p4]; omega)])
theorem impl_failures.ev (l : List Int) (g : coinsB l = true) (m : Int) (hm : 0 ≤ m ∧ m ≤ 10000000) : Ev (fun k => impl_failures.f k l m) (failL l m) := by
 have hf := coins_facts g
 unfold impl_failures.f
 exact Ev.bind (impl_fewStamps.ev l (by omega) (fun x hx => ⟨(hf.2.2.1 x hx).1, by have := (hf.2.2.1 x hx).2; omega⟩) m hm) (impl_failures.ev_l l g m hm (m + 1).toNat 0 (by omega))
theorem impl_FailuresUpTo.ev (l : List Int) (m : Int) (hl : l.length ≤ 9223372036854775806) : Ev (fun k => impl_FailuresUpTo.f k l m) (if (coinsB l && inB m 0 2000) = true then (failL l m, true) else ([], false)) := by
 unfold impl_FailuresUpTo.f
 refine Ev.bind (impl_AreCoins.ev l hl) ?_
 cases g : coinsB l with
 | false => exact Ev.neg (by decide) (Ev.val rfl)
 | true =>
  refine Ev.pos rfl (Ev.bindc (impl_within.valB m 0 2000) ?_)
  cases c : inB m 0 2000 with
  | false => exact Ev.neg (by decide) (Ev.val rfl)
  | true =>
   have hc : 0 ≤ m ∧ m ≤ 2000 := by unfold inB at c; simpa using c
   exact Ev.pos rfl (Ev.bind (impl_failures.ev l g m (by omega)) (Ev.val rfl))
noncomputable def ffC (l : List Int) : Int × Bool := if coinsB l = true ∧ 0 ≤ ffF l then (ffF l, true) else (0, false)
theorem impl_FirstFailure.ev (l : List Int) (hl : l.length ≤ 9223372036854775806) : Ev (fun k => impl_FirstFailure.f k l) (ffC l) := by
 unfold impl_FirstFailure.f
 refine Ev.bind (impl_AreCoins.ev l hl) ?_
 unfold ffC
 cases g : coinsB l with
 | false => exact Ev.neg (by decide) (Ev.val (by simp))
 | true =>
  have hf := coins_facts g
  refine Ev.pos rfl (Ev.bind (impl_failures.ev l g 2000 (by omega)) ?_)
  have hm : 2 * rd l ((l.length : Int) - 1) ≤ 2000 := by
   have := (hf.2.2.1 (rd l ((l.length : Int) - 1)) (by rw [show (l.length : Int) - 1 = ((l.length - 1 : Nat) : Int) by omega, rd_eq l _ (by omega)]; exact List.getElem_mem _)).2
   omega
  rcases failL_first g 2000 (.inl hm) with ⟨p, hp, t, ht⟩ | ⟨hp, ht⟩
  · rw [ht, hp]
    exact Ev.neg (by rw [List.length_cons]; omega) (Ev.pos (by rw [List.length_cons]; omega) (Ev.val (by rw [if_pos ⟨rfl, by omega⟩]; rfl)))
  rw [ht, hp]
  exact Ev.pos rfl (Ev.val (by rw [if_neg (fun h => absurd h.2 (by omega))]))
theorem impl_IsGreedy.ev (l : List Int) (hl : l.length ≤ 9223372036854775806) : Ev (fun k => impl_IsGreedy.f k l) (coinsB l && !(ffC l).2, coinsB l) := by
 unfold impl_IsGreedy.f
 refine Ev.bind (impl_AreCoins.ev l hl) ?_
 cases g : coinsB l with
 | false => exact Ev.neg (by decide) (Ev.val rfl)
 | true => exact Ev.pos rfl (Ev.bind (impl_FirstFailure.ev l hl) (Ev.val rfl))
theorem set_map_rg (p : Int → Bool) (N i : Nat) (hi : i < N) : (((rg 0 i).map p) ++ List.replicate (N - i) false).set i (p (i : Int)) = ((rg 0 (i + 1)).map p) ++ List.replicate (N - (i + 1)) false := by
 rw [show N - i = (N - (i + 1)) + 1 by omega, List.replicate_succ, List.set_append_right _ _ (by rw [List.length_map, rg_length]; omega), List.length_map, rg_length, Nat.sub_self, List.set_cons_zero, rg_snoc, List.map_append, Nat.zero_add]
 simp
theorem spec_cnFails.ev_l (l : List Int) (g : coinsB l = true) (m : Int) (hm : 0 ≤ m ∧ m ≤ 10000000) : ∀ (d i : Nat), (i : Int) + d = m + 1 → Ev (fun k => spec_cnFails.l0 k l (((rg 0 i).map fun a => failB l a) ++ List.replicate ((m + 1).toNat - i) false) (tab (m + 1).toNat (fewF l (-1))) ((tab (m + 1).toNat (fewF l (-1))).length : Int) (i : Int)) ((rg 0 (m + 1).toNat).map fun a => failB l a) := by
 have hf := coins_facts g
 have h1 : ∀ x ∈ l, 1 ≤ x := fun x hx => (hf.2.2.1 x hx).1
 intro d
 induction d with
 | zero =>
  intro i hi
  refine Ev.step (f := fun _ => some (((rg 0 i).map fun a => failB l a) ++ List.replicate ((m + 1).toNat - i) false)) (fun k => ?_) (Ev.val ?_)
  · rw [spec_cnFails.l0, if_neg (by rw [tab_length]; omega)]
  rw [show (m + 1).toNat = i by omega, Nat.sub_self]; simp
 | succ d ih =>
  intro i hi
  have h := ih (i + 1) (by omega)
  have ew : wrap64 ((i : Int) + 1) = ((i + 1 : Nat) : Int) := by rw [w64 (by omega) (by omega)]; omega
  rw [← set_map_rg (fun a => failB l a) _ i (by omega), ← ew] at h
  have hrd : rd (tab (m + 1).toNat (fewF l (-1))) (i : Int) = fewF l (-1) (i : Int) := rd_tab _ _ _ (by omega) (by omega)
  obtain ⟨s1, s2, s3, s4, s5⟩ := gr_sum h1 (i : Int) (by omega)
  have hgr := spec_cnGreedy.ev l (by omega) h1 (i : Int) (by omega) (by omega)
  have hlen : (i : Int) < ((tab (m + 1).toNat (fewF l (-1))).length : Int) := by rw [tab_length]; omega
  have hl2 : (i : Int) < ((((rg 0 i).map fun a => failB l a) ++ List.replicate ((m + 1).toNat - i) false).length : Int) := by
   rw [List.length_append, List.length_map, rg_length, List.length_replicate]; omega
  generalize ((rg 0 i).map fun a => failB l a) ++ List.replicate ((m + 1).toNat - i) false = X at h hl2 ⊢
  generalize ((rg 0 (m + 1).toNat).map fun a => failB l a) = R at h ⊢
  have go : ∀ {f : Nat → (List Int × Bool) → Option (List Bool)}, Ev (fun k => f k ((grR l.reverse (i : Int)).reverse, decide (grE l.reverse (i : Int) = 0))) R → (∀ k, spec_cnFails.l0 (k + 1) l X (tab (m + 1).toNat (fewF l (-1))) ((tab (m + 1).toNat (fewF l (-1))).length : Int) (i : Int) = (spec_cnGreedy.f k l (i : Int)).bind fun b => f k b) → Ev (fun k => spec_cnFails.l0 k l X (tab (m + 1).toNat (fewF l (-1))) ((tab (m + 1).toNat (fewF l (-1))).length : Int) (i : Int)) R :=
   fun hE he => Ev.step he (Ev.bind hgr hE)
  refine go ?_ (fun k => by rw [spec_cnFails.l0, if_pos hlen, if_pos (by omega), if_pos hlen])
  rw [Int.toNat_natCast]
  rcases fewF_cases h1 (i : Int) with ⟨p, p1, p2, p3, p4⟩ | ⟨p1, p4⟩
  · refine Ev.pos (by rw [hrd, p4]; omega) ?_
    by_cases c : grE l.reverse (i : Int) = 0
    · refine Ev.pos (by simp [c]) (Ev.bind (spec_piSum.ev (grR l.reverse (i : Int)).reverse (by omega) s1 (by omega)) (Ev.pos hl2 (Ev.congr (fun k => ?_) h)))
      rw [hrd, s2, show failB l (i : Int) = decide ((grR l.reverse (i : Int)).sum > fewF l (-1) (i : Int)) from ?_]
      unfold failB
      rw [p4, decide_eq_true (show (0 : Int) ≤ p by omega)]
      simp [c]
    refine Ev.neg (by simp [c]) (Ev.pos hl2 (Ev.congr (fun k => ?_) h))
    rw [show failB l (i : Int) = true from ?_]
    unfold failB
    rw [p4, decide_eq_true (show (0 : Int) ≤ p by omega)]
    simp [c]
  refine Ev.neg (by rw [hrd, p4]; omega) (Ev.pos hl2 (Ev.congr (fun k => ?_) h))
  rw [show failB l (i : Int) = false from ?_]
  unfold failB
  rw [p4]; rfl
theorem spec_cnFails.ev (l : List Int) (g : coinsB l = true) (m : Int) (hm : 0 ≤ m ∧ m ≤ 10000000) : Ev (fun k => spec_cnFails.f k l m) ((rg 0 (m + 1).toNat).map fun a => failB l a) := by
 have hf := coins_facts g
 unfold spec_cnFails.f
 rw [w64 (by omega) (by omega)]
 refine Ev.pos (by omega) (Ev.pos (by omega) (Ev.bind (spec_cnFew.ev l (by omega) (fun x hx => ⟨(hf.2.2.1 x hx).1, by have := (hf.2.2.1 x hx).2; omega⟩) m hm) ?_))
 exact Ev.congr (fun k => by simp [rg]) (spec_cnFails.ev_l l g m hm (m + 1).toNat 0 (by omega))
theorem rdOf_map (p : Int → Bool) (N i : Nat) (hi : i < N) : rdOf false ((rg 0 N).map p) (i : Int) = p (i : Int) := by
 have h2 : i < ((rg 0 N).map p).length := by rw [List.length_map, rg_length]; exact hi
 unfold rdOf
 rw [Int.toNat_natCast, List.getD_eq_getElem?_getD, List.getElem?_eq_getElem h2, Option.getD_some, List.getElem_map]
 simp [rg]
theorem fu_l (p : Int → Bool) (N : Nat) (hN : N ≤ 10000001) : ∀ (d i : Nat), i + d = N → Ev (fun k => spec_FailuresUpTo.l0 k ((rg 0 i).filter p) ((rg 0 N).map p) (((rg 0 N).map p).length : Int) (i : Int)) ((rg 0 N).filter p, true) := by
 intro d
 have hlen : (((rg 0 N).map p).length : Int) = N := by rw [List.length_map, rg_length]
 induction d with
 | zero =>
  intro i hi
  refine Ev.step (f := fun _ => some ((rg 0 i).filter p, true)) (fun k => ?_) (Ev.val (by rw [show i = N by omega]))
  rw [spec_FailuresUpTo.l0, if_neg (by omega)]
 | succ d ih =>
  intro i hi
  have h := ih (i + 1) (by omega)
  have hfl := flt_le p i
  have ew : wrap64 ((i : Int) + 1) = ((i + 1 : Nat) : Int) := by rw [w64 (by omega) (by omega)]; omega
  rw [flt_snoc, ← ew] at h
  by_cases c : p (i : Int) = true
  · rw [if_pos c] at h
    refine Ev.step (fun k => ?_) h
    rw [spec_FailuresUpTo.l0, if_pos (by omega), if_pos (by omega), if_pos (by omega), rdOf_map p N i (by omega), if_pos c, if_pos (by omega)]
  rw [if_neg c, List.append_nil] at h
  refine Ev.step (fun k => ?_) h
  rw [spec_FailuresUpTo.l0, if_pos (by omega), if_pos (by omega), if_pos (by omega), rdOf_map p N i (by omega), if_neg c]
theorem spec_FailuresUpTo.ev (l : List Int) (m : Int) (hl : l.length ≤ 9223372036854775806) : Ev (fun k => spec_FailuresUpTo.f k l m) (if (coinsB l && inB m 0 2000) = true then (failL l m, true) else ([], false)) := by
 unfold spec_FailuresUpTo.f
 refine Ev.bind (spec_cnGood.ev l hl) ?_
 have hno : Ev (fun k => spec_FailuresUpTo.j0 k l m true) ([], false) := Ev.step (f := fun _ => some ([], false)) (fun k => by rw [spec_FailuresUpTo.j0, if_pos rfl]) (Ev.val rfl)
 cases g : coinsB l with
 | false => exact Ev.neg (by decide) hno
 | true =>
  refine Ev.pos rfl (Ev.bindc (spec_l1In.valB m 0 2000) ?_)
  cases c : inB m 0 2000 with
  | false => exact hno
  | true =>
   have hc : 0 ≤ m ∧ m ≤ 2000 := by unfold inB at c; simpa using c
   refine Ev.step (fun k => by rw [spec_FailuresUpTo.j0, if_neg (by decide)]) (Ev.bind (spec_cnFails.ev l g m (by omega)) ?_)
   exact fu_l (fun a => failB l a) (m + 1).toNat (by omega) (m + 1).toNat 0 (by omega)
theorem spec_cnBound.ev {l : List Int} (g : coinsB l = true) : ∃ b, spec_cnBound.f l = some b ∧ 0 ≤ b ∧ b ≤ 1000000 ∧ (2 ≤ l.length → 2 * rd l ((l.length : Int) - 1) ≤ b) := by
 have hf := coins_facts g
 have hr : ∀ i : Nat, i < l.length → 1 ≤ rd l (i : Int) ∧ rd l (i : Int) ≤ 1000 := fun i hi => by rw [rd_eq l i hi]; exact hf.2.2.1 _ (List.getElem_mem hi)
 unfold spec_cnBound.f
 by_cases c : (l.length : Int) = 1
 · rw [if_pos c, if_pos (by omega)]
   have := hr 0 (by omega)
   exact ⟨_, rfl, by simp at this; omega, by simp at this; omega, fun h => by omega⟩
 rw [if_neg c, w64 (n := (l.length : Int) - 1) (by omega) (by omega), w64 (n := (l.length : Int) - 2) (by omega) (by omega), if_pos (by omega), if_pos (by omega), if_pos (by omega), if_pos (by omega)]
 have h1 := hr (l.length - 1) (by omega)
 have h2 := hr (l.length - 2) (by omega)
 rw [show ((l.length - 1 : Nat) : Int) = (l.length : Int) - 1 by omega] at h1
 rw [show ((l.length - 2 : Nat) : Int) = (l.length : Int) - 2 by omega] at h2
 generalize rd l ((l.length : Int) - 1) = x at h1 ⊢
 generalize rd l ((l.length : Int) - 2) = y at h2 ⊢
 have hxy : 0 ≤ x * y := Int.mul_nonneg (by omega) (by omega)
 have hxy2 : x * y ≤ 1000 * 1000 := Int.mul_le_mul h1.2 h2.2 (by omega) (by omega)
 rw [w64 (n := x * y) (by omega) (by omega), w64 (n := 2 * x) (by omega) (by omega)]
 unfold spec_l1Most.f
 by_cases q : x * y > 2 * x
 · rw [if_pos q]; exact ⟨_, rfl, by omega, by omega, fun _ => by omega⟩
 rw [if_neg q]; exact ⟨_, rfl, by omega, by omega, fun _ => by omega⟩
theorem ffs_l (p : Int → Bool) (N : Nat) (hN : N ≤ 10000001) (q : Nat) (hq : q ≤ N) (h0 : ∀ j : Nat, j < q → p (j : Int) = false) (R : Int × Bool) (hR : (q = N ∧ R = (0, false)) ∨ (q < N ∧ p (q : Int) = true ∧ R = ((q : Int), true))) : ∀ (d i : Nat), i + d = q → Ev (fun k => spec_FirstFailure.l0 k ((rg 0 N).map p) (((rg 0 N).map p).length : Int) (i : Int)) R := by
 intro d
 have hlen : (((rg 0 N).map p).length : Int) = N := by rw [List.length_map, rg_length]
 induction d with
 | zero =>
  intro i hi
  obtain rfl : i = q := by omega
  rcases hR with ⟨h1, rfl⟩ | ⟨h1, h2, rfl⟩
  · refine Ev.step (f := fun _ => some (0, false)) (fun k => ?_) (Ev.val rfl)
    rw [spec_FirstFailure.l0, if_neg (by omega)]
  refine Ev.step (f := fun _ => some ((i : Int), true)) (fun k => ?_) (Ev.val rfl)
  rw [spec_FirstFailure.l0, if_pos (by omega), if_pos (by omega), if_pos (by omega), rdOf_map p N i (by omega), if_pos h2]
 | succ d ih =>
  intro i hi
  have h := ih (i + 1) (by omega)
  have ew : wrap64 ((i : Int) + 1) = ((i + 1 : Nat) : Int) := by rw [w64 (by omega) (by omega)]; omega
  rw [← ew] at h
  refine Ev.step (fun k => ?_) h
  rw [spec_FirstFailure.l0, if_pos (by omega), if_pos (by omega), if_pos (by omega), rdOf_map p N i (by omega), h0 i (by omega), if_neg (by decide)]
theorem spec_FirstFailure.ev (l : List Int) (hl : l.length ≤ 9223372036854775806) : Ev (fun k => spec_FirstFailure.f k l) (ffC l) := by
 unfold spec_FirstFailure.f
 refine Ev.bind (spec_cnGood.ev l hl) ?_
 unfold ffC
 cases g : coinsB l with
 | false => exact Ev.neg (by decide) (Ev.val (by simp))
 | true =>
  obtain ⟨b, hb, hb0, hb1, hb2⟩ := spec_cnBound.ev g
  refine Ev.pos rfl (Ev.bindc hb (Ev.bind (spec_cnFails.ev l g b (by omega)) ?_))
  rcases ff_cases g with ⟨p, p1, p2, p3, p4, p5⟩ | ⟨p1, p5⟩
  · have := hb2 p4
    refine Ev.eq (ffs_l (fun a => failB l a) (b + 1).toNat (by omega) p (by omega) p2 ((p : Int), true) (.inr ⟨by omega, p1, rfl⟩) p 0 (by omega)) ?_
    rw [p5, if_pos ⟨rfl, by omega⟩]
  refine Ev.eq (ffs_l (fun a => failB l a) (b + 1).toNat (by omega) (b + 1).toNat (by omega) (fun j _ => p1 j) (0, false) (.inl ⟨rfl, rfl⟩) (b + 1).toNat 0 (by omega)) ?_
  rw [p5, if_neg (fun h => absurd h.2 (by omega))]
theorem spec_IsGreedy.ev (l : List Int) (hl : l.length ≤ 9223372036854775806) : Ev (fun k => spec_IsGreedy.f k l) (coinsB l && !(ffC l).2, coinsB l) := by
 unfold spec_IsGreedy.f
 refine Ev.bind (spec_cnGood.ev l hl) ?_
 cases g : coinsB l with
 | false => exact Ev.neg (by decide) (Ev.val rfl)
 | true => exact Ev.pos rfl (Ev.bind (spec_FirstFailure.ev l hl) (Ev.val rfl))
noncomputable def sumF (l : List Int) (m : Int) : Int := (tab (m + 1).toNat (fewF l (-1))).sum
def allP (l : List Int) (m : Int) : Prop := ∀ a : Int, 0 ≤ a → a ≤ m → ∃ n, PayN l n a
theorem tab_sum_le (f : Int → Int) : ∀ N : Nat, (∀ a : Int, 0 ≤ a → a < N → 0 ≤ f a ∧ f a ≤ a) → 0 ≤ (tab N f).sum ∧ (tab N f).sum ≤ (N : Int) * N
 | 0, _ => by simp [tab]
 | N + 1, h => by
  have ih := tab_sum_le f N (fun a h0 h1 => h a h0 (by omega))
  have hN := h N (by omega) (by omega)
  have e : tab (N + 1) f = tab N f ++ [f N] := by unfold tab; rw [List.range_succ, List.map_append]; rfl
  rw [e, List.sum_append]
  simp only [List.sum_cons, List.sum_nil]
  have : ((N + 1 : Nat) : Int) * ((N + 1 : Nat) : Int) = (N : Int) * N + N + N + 1 := by rw [Int.natCast_add, Int.mul_add, Int.add_mul, Int.natCast_one]; omega
  omega
theorem allP_few {l : List Int} (h1 : ∀ x ∈ l, 1 ≤ x) {m : Int} (h : allP l m) (a : Int) (h0 : 0 ≤ a) (h2 : a ≤ m) : 0 ≤ fewF l (-1) a ∧ fewF l (-1) a ≤ a ∧ ∀ z, fewF l z a = fewF l (-1) a := by
 rcases fewF_cases h1 a with ⟨p, p1, _, p3, p4⟩ | ⟨p1, _⟩
 · rw [p4]; exact ⟨by omega, p3, p4⟩
 obtain ⟨n, hn⟩ := h a h0 h2; exact absurd hn (p1 n)
open Classical in
noncomputable def meanC (l : List Int) (m : Int) : Int × Int × Bool := if (coinsB l && inB m 1 2000) = true ∧ allP l m then (sumF l m / (Nat.gcd (sumF l m).toNat m.toNat : Nat), m / (Nat.gcd (sumF l m).toNat m.toNat : Nat), true) else (0, 0, false)
theorem mean_facts {l : List Int} {m : Int} (h1 : ∀ x ∈ l, 1 ≤ x) (hm : 1 ≤ m ∧ m ≤ 2000) (h : allP l m) : 0 ≤ sumF l m ∧ sumF l m ≤ 4100000 ∧ 1 ≤ ((Nat.gcd (sumF l m).toNat m.toNat : Nat) : Int) ∧ ((Nat.gcd (sumF l m).toNat m.toNat : Nat) : Int) ≤ m := by
 have hs := tab_sum_le (fewF l (-1)) (m + 1).toNat (fun a h0 h2 => by have := allP_few h1 h a h0 (by omega); exact ⟨this.1, this.2.1⟩)
 have hb : ((m + 1).toNat : Int) * (m + 1).toNat ≤ 2001 * 2001 := Int.mul_le_mul (by omega) (by omega) (by omega) (by omega)
 have hg : 0 < Nat.gcd (sumF l m).toNat m.toNat := Nat.gcd_pos_of_pos_right _ (by omega)
 have hg2 := Nat.le_of_dvd (show 0 < m.toNat by omega) (Nat.gcd_dvd_right (sumF l m).toNat m.toNat)
 unfold sumF at *
 exact ⟨hs.1, by omega, by omega, by omega⟩
theorem tab_mem {N : Nat} {f : Int → Int} {x : Int} (h : x ∈ tab N f) : ∃ a : Int, 0 ≤ a ∧ a < N ∧ x = f a := by
 unfold tab at h
 rw [List.mem_map] at h
 obtain ⟨i, hi, rfl⟩ := h
 exact ⟨(i : Int), by omega, by have := List.mem_range.1 hi; omega, rfl⟩
theorem mem_tab {N : Nat} {f : Int → Int} {a : Int} (h0 : 0 ≤ a) (h1 : a < N) : f a ∈ tab N f := by
 unfold tab
 rw [List.mem_map]
 exact ⟨a.toNat, List.mem_range.2 (by omega), by rw [Int.toNat_of_nonneg h0]⟩
theorem impl_MeanCoins.ev (l : List Int) (m : Int) (hl : l.length ≤ 9223372036854775806) : Ev (fun k => impl_MeanCoins.f k l m) (meanC l m) := by
 unfold impl_MeanCoins.f
 refine Ev.bind (impl_AreCoins.ev l hl) ?_
 have hno : Ev (fun k => impl_MeanCoins.j0 k l m true) (0, 0, false) := Ev.step (f := fun _ => some (0, 0, false)) (fun k => by rw [impl_MeanCoins.j0, if_pos rfl]) (Ev.val rfl)
 unfold meanC
 cases g : coinsB l with
 | false => exact Ev.neg (by decide) (Ev.eq hno (by simp))
 | true =>
  refine Ev.pos rfl (Ev.bindc (impl_within.valB m 1 2000) ?_)
  cases c : inB m 1 2000 with
  | false => exact Ev.eq hno (by simp)
  | true =>
   have hm : 1 ≤ m ∧ m ≤ 2000 := by unfold inB at c; simpa using c
   have hf := coins_facts g
   have h1 : ∀ x ∈ l, 1 ≤ x := fun x hx => (hf.2.2.1 x hx).1
   have hT : (tab (m + 1).toNat (fewF l (m + 1))).length = (m + 1).toNat := tab_length _ _
   refine Ev.step (fun k => by rw [impl_MeanCoins.j0, if_neg (by decide)]) (Ev.bind (impl_fewStamps.ev l (by omega) (fun x hx => ⟨(hf.2.2.1 x hx).1, by have := (hf.2.2.1 x hx).2; omega⟩) m (by omega)) (Ev.bindc (x := maxF ((tab (m + 1).toNat (fewF l (m + 1))).drop 1) (rd (tab (m + 1).toNat (fewF l (m + 1))) 0)) ?_ ?_))
   · unfold slices_Max_int_int.f; rw [if_pos (by omega)]
   have hcons : tab (m + 1).toNat (fewF l (m + 1)) = rd (tab (m + 1).toNat (fewF l (m + 1))) 0 :: (tab (m + 1).toNat (fewF l (m + 1))).drop 1 := by
    cases hq : tab (m + 1).toNat (fewF l (m + 1)) with
    | nil => rw [hq] at hT; simp at hT; omega
    | cons x s => simp [rd]
   obtain ⟨m1, m2, m3⟩ := maxF_facts ((tab (m + 1).toNat (fewF l (m + 1))).drop 1) (rd (tab (m + 1).toNat (fewF l (m + 1))) 0)
   rw [← hcons] at m3
   have m4 : ∀ x ∈ tab (m + 1).toNat (fewF l (m + 1)), x ≤ maxF ((tab (m + 1).toNat (fewF l (m + 1))).drop 1) (rd (tab (m + 1).toNat (fewF l (m + 1))) 0) := by
    intro x hx
    rw [hcons] at hx
    rcases List.mem_cons.1 hx with rfl | hx
    · exact m1
    exact m2 x hx
   by_cases h : allP l m
   · obtain ⟨f1, f2, f3, f4⟩ := mean_facts h1 hm h
     have ht : tab (m + 1).toNat (fewF l (m + 1)) = tab (m + 1).toNat (fewF l (-1)) := tab_congr _ _ _ (fun a h0 h2 => (allP_few h1 h a h0 (by omega)).2.2 _)
     have htot := impl_total.ev (tab (m + 1).toNat (fewF l (-1))) (by rw [tab_length]; omega) (fun x hx => by obtain ⟨a, a0, a1, rfl⟩ := tab_mem hx; exact (allP_few h1 h a a0 (by omega)).1) (by unfold sumF at f2; omega)
     refine Ev.neg ?_ ?_
     · obtain ⟨a, a0, a1, e⟩ := tab_mem m3
       have := allP_few h1 h a a0 (by omega)
       rw [e, this.2.2]; omega
     rw [ht]
     rw [show (tab (m + 1).toNat (fewF l (-1))).sum = sumF l m from rfl] at htot
     have hg := impl_gcd.ev (sumF l m).toNat m.toNat
     rw [Int.toNat_of_nonneg f1, Int.toNat_of_nonneg (show 0 ≤ m by omega)] at hg
     refine Ev.bind htot (Ev.bind hg (Ev.bind htot (Ev.neg (by omega) (Ev.val ?_))))
     have d1 := Int.ediv_nonneg f1 (show 0 ≤ ((Nat.gcd (sumF l m).toNat m.toNat : Nat) : Int) by omega)
     have d2 := Int.ediv_le_self ((Nat.gcd (sumF l m).toNat m.toNat : Nat) : Int) f1
     have d3 := Int.ediv_nonneg (show 0 ≤ m by omega) (show 0 ≤ ((Nat.gcd (sumF l m).toNat m.toNat : Nat) : Int) by omega)
     have d4 := Int.ediv_le_self ((Nat.gcd (sumF l m).toNat m.toNat : Nat) : Int) (show 0 ≤ m by omega)
     rw [if_pos ⟨rfl, h⟩, Int.tdiv_eq_ediv_of_nonneg f1, Int.tdiv_eq_ediv_of_nonneg (show 0 ≤ m by omega), w64 (by omega) (by omega), w64 (by omega) (by omega)]
   refine Ev.pos ?_ (Ev.val (by rw [if_neg (fun q => h q.2)]))
   apply Classical.byContradiction
   intro q
   apply h
   intro a h0 h2
   have := m4 _ (mem_tab (f := fewF l (m + 1)) h0 (show a < (m + 1).toNat by omega))
   rcases fewF_cases h1 a with ⟨p, p1, _⟩ | ⟨_, p4⟩
   · exact ⟨p, p1⟩
   rw [p4] at this; omega
theorem spec_MeanCoins.ev_1 (m x7 : Int) (R : Int × Int × Bool) : ∀ (b a : Nat), (∀ k, (if ((Nat.gcd a b : Nat) : Int) = 0 then (none : Option (Int × Int × Bool)) else (some (wrap64 (Int.tdiv x7 (Nat.gcd a b : Nat)), wrap64 (Int.tdiv m (Nat.gcd a b : Nat)), true))) = (fun (_ : Nat) => some R) k) → Ev (fun k => spec_MeanCoins.l1 k m x7 (a : Int) (b : Int)) R := by
 intro b
 induction b using Nat.strongRecOn with
 | ind b ih =>
  intro a next
  by_cases h : b = 0
  · subst h
    rw [Nat.gcd_zero_right] at next
    refine Ev.step (fun k => ?_) (Ev.val (a := R) rfl)
    rw [spec_MeanCoins.l1, if_neg (by simp)]
    exact next k
  have e : Int.tmod (a : Int) (b : Int) = ((a % b : Nat) : Int) := by rw [Int.tmod_eq_emod_of_nonneg (by omega)]; simp
  have hg : Nat.gcd b (a % b) = Nat.gcd a b := by rw [Nat.gcd_comm a b, Nat.gcd_rec b a, Nat.gcd_comm]
  refine Ev.step (fun k => ?_) (ih (a % b) (Nat.mod_lt _ (by omega)) b (by rw [hg]; exact next))
  rw [spec_MeanCoins.l1, if_pos (by omega), if_neg (by omega), e]
theorem spec_MeanCoins.ev_0 (m : Int) (R : Int × Int × Bool) : ∀ (s q : List Int) (acc : Int), (q ++ s).length ≤ 3000 → 0 ≤ acc → acc ≤ 3000 * q.length → (∀ x ∈ s, x ≤ 3000) → ((∃ x ∈ s, x < 0) → R = (0, 0, false)) → ((∀ x ∈ s, 0 ≤ x) → Ev (fun k => spec_MeanCoins.l1 k m (acc + s.sum) (acc + s.sum) m) R) → Ev (fun k => spec_MeanCoins.l0 k m acc (q ++ s) ((q ++ s).length : Int) (q.length : Int)) R
 | [], q, acc, hl, h0, h2, hb, hn, hy => by
  have := hy (fun x hx => (by cases hx))
  rw [List.sum_nil, Int.add_zero] at this
  refine Ev.step (fun k => ?_) this
  rw [spec_MeanCoins.l0, if_neg (by simp)]
 | x :: s, q, acc, hl, h0, h2, hb, hn, hy => by
  have hll : q.length + (s.length + 1) ≤ 3000 := by simpa using hl
  have hx := hb x (by simp)
  have ew : wrap64 ((q.length : Int) + 1) = ((q ++ [x]).length : Int) := by rw [w64 (by omega) (by omega)]; simp
  by_cases c : x < 0
  · refine Ev.step (f := fun _ => some (0, 0, false)) (fun k => ?_) (Ev.val (hn ⟨x, by simp, c⟩).symm)
    rw [spec_MeanCoins.l0, if_pos (by simp <;> omega), if_pos (by omega), if_pos (by simp <;> omega), rd_app, if_pos c]
  have ih := spec_MeanCoins.ev_0 m R s (q ++ [x]) (acc + x) (by simpa using hl) (by omega) (by simp; omega) (fun y hy => hb y (by simp [hy])) (fun ⟨y, h1, h3⟩ => hn ⟨y, by simp [h1], h3⟩) (fun h => by
   have := hy (fun y hy => by rcases List.mem_cons.1 hy with rfl | hy; omega; exact h y hy)
   rw [List.sum_cons, ← Int.add_assoc] at this; exact this)
  rw [List.append_assoc, List.singleton_append, ← ew] at ih
  refine Ev.step (fun k => ?_) ih
  rw [spec_MeanCoins.l0, if_pos (by simp <;> omega), if_pos (by omega), if_pos (by simp <;> omega), rd_app, if_neg c, w64 (n := acc + x) (by omega) (by omega)]
theorem spec_MeanCoins.ev (l : List Int) (m : Int) (hl : l.length ≤ 9223372036854775806) : Ev (fun k => spec_MeanCoins.f k l m) (meanC l m) := by
 unfold spec_MeanCoins.f
 refine Ev.bind (spec_cnGood.ev l hl) ?_
 have hno : Ev (fun k => spec_MeanCoins.j0 k l m true) (0, 0, false) := Ev.step (f := fun _ => some (0, 0, false)) (fun k => by rw [spec_MeanCoins.j0, if_pos rfl]) (Ev.val rfl)
 unfold meanC
 cases g : coinsB l with
 | false => exact Ev.neg (by decide) (Ev.eq hno (by simp))
 | true =>
  refine Ev.pos rfl (Ev.bindc (spec_l1In.valB m 1 2000) ?_)
  cases c : inB m 1 2000 with
  | false => exact Ev.eq hno (by simp)
  | true =>
   have hm : 1 ≤ m ∧ m ≤ 2000 := by unfold inB at c; simpa using c
   have hf := coins_facts g
   have h1 : ∀ x ∈ l, 1 ≤ x := fun x hx => (hf.2.2.1 x hx).1
   refine Ev.step (fun k => by rw [spec_MeanCoins.j0, if_neg (by decide)]) (Ev.bind (spec_cnFew.ev l (by omega) (fun x hx => ⟨(hf.2.2.1 x hx).1, by have := (hf.2.2.1 x hx).2; omega⟩) m (by omega)) ?_)
   refine spec_MeanCoins.ev_0 m _ (tab (m + 1).toNat (fewF l (-1))) [] 0 (by simp [tab_length]; omega) (by omega) (by simp) ?_ ?_ ?_
   · intro x hx
     obtain ⟨a, a0, a1, rfl⟩ := tab_mem hx
     rcases fewF_cases h1 a with ⟨p, _, _, p3, p4⟩ | ⟨_, p4⟩
     · rw [p4]; omega
     rw [p4]; omega
   · rintro ⟨x, hx, hx0⟩
     obtain ⟨a, a0, a1, rfl⟩ := tab_mem hx
     rw [if_neg]
     rintro ⟨_, h⟩
     have := (allP_few h1 h a a0 (by omega)).1
     omega
   intro hx
   have h : allP l m := by
    intro a h0 h2
    have := hx _ (mem_tab (f := fewF l (-1)) h0 (show a < (m + 1).toNat by omega))
    rcases fewF_cases h1 a with ⟨p, p1, _⟩ | ⟨_, p4⟩
    · exact ⟨p, p1⟩
    rw [p4] at this; omega
   obtain ⟨f1, f2, f3, f4⟩ := mean_facts h1 hm h
   rw [if_pos ⟨by simp, h⟩, Int.zero_add, show (tab (m + 1).toNat (fewF l (-1))).sum = sumF l m from rfl]
   have hgo := spec_MeanCoins.ev_1 m (sumF l m) (sumF l m / ((Nat.gcd (sumF l m).toNat m.toNat : Nat) : Int), m / ((Nat.gcd (sumF l m).toNat m.toNat : Nat) : Int), true) m.toNat (sumF l m).toNat (fun k => ?_)
   · rw [Int.toNat_of_nonneg f1, Int.toNat_of_nonneg (show 0 ≤ m by omega)] at hgo
     exact hgo
   have d1 := Int.ediv_nonneg f1 (show 0 ≤ ((Nat.gcd (sumF l m).toNat m.toNat : Nat) : Int) by omega)
   have d2 := Int.ediv_le_self ((Nat.gcd (sumF l m).toNat m.toNat : Nat) : Int) f1
   have d3 := Int.ediv_nonneg (show 0 ≤ m by omega) (show 0 ≤ ((Nat.gcd (sumF l m).toNat m.toNat : Nat) : Int) by omega)
   have d4 := Int.ediv_le_self ((Nat.gcd (sumF l m).toNat m.toNat : Nat) : Int) (show 0 ≤ m by omega)
   rw [if_neg (by omega), Int.tdiv_eq_ediv_of_nonneg f1, Int.tdiv_eq_ediv_of_nonneg (show 0 ≤ m by omega), w64 (by omega) (by omega), w64 (by omega) (by omega)]
theorem drawGreedyChange_ev {l : List Int} (h : BytesL l) : ∃ r a, Ev (fun k => spec_DrawGreedyChange.f k l) (r, a) ∧ r.length ≤ 20 := by
 obtain ⟨r, a, t, e, hl, h0, h2⟩ := cur_coins h (a := 0) 0 (by omega) (by omega)
 obtain ⟨r2, a2, t2, e2⟩ := cur_amount h (a := a) t (by omega) (by omega)
 refine ⟨r, r2, ?_, hl⟩
 unfold spec_DrawGreedyChange.f spec_DrawGreedyChange_in.f
 exact Ev.bind (Ev.bind e (Ev.bindc e2 (Ev.now _))) (Ev.now _)
theorem drawFailuresUpTo_ev {l : List Int} (h : BytesL l) : ∃ r a, Ev (fun k => spec_DrawFailuresUpTo.f k l) (r, a) ∧ r.length ≤ 20 := by
 obtain ⟨r, a, t, e, hl, h0, h2⟩ := cur_coins h (a := 0) 0 (by omega) (by omega)
 obtain ⟨r2, a2, t2, e2, _⟩ := cur_among h (a := a) t [0, 1, 20, 60, 2000, 2001, (-1)] (by omega) (by omega) (by simp) (by simp)
 refine ⟨r, r2, ?_, hl⟩
 unfold spec_DrawFailuresUpTo.f spec_DrawFailuresUpTo_in.f
 exact Ev.bind (Ev.bind e (Ev.bindc e2 (Ev.now _))) (Ev.now _)
def dotN (l m : List Int) : Nat → Int
 | 0 => 0
 | i + 1 => dotN l m i + rd m (i : Int) * rd l (i : Int)
theorem rd_consS (x : Int) (l : List Int) (i : Nat) : rd (x :: l) ((i + 1 : Nat) : Int) = rd l (i : Int) := by simp [rd]
theorem dotN_cons (c k : Int) (l m : List Int) : ∀ i, dotN (c :: l) (k :: m) (i + 1) = k * c + dotN l m i
 | 0 => by simp [dotN, rd]
 | i + 1 => by rw [dotN, dotN_cons c k l m i, rd_consS, rd_consS, dotN]; omega
theorem dotN_all : ∀ (l m : List Int), l.length = m.length → dotN l m l.length = dotL l m
 | [], m, _ => by cases m <;> rfl
 | c :: l, k :: m, h => by rw [List.length_cons, dotN_cons, dotN_all l m (by simpa using h), dotL]
 | c :: l, [], h => by simp at h
theorem rd_nn {l : List Int} (h : ∀ x ∈ l, 0 ≤ x) (i : Nat) : 0 ≤ rd l (i : Int) := by
 by_cases c : i < l.length
 · rw [rd_eq l i c]; exact h _ (List.getElem_mem c)
 unfold rd; rw [Int.toNat_natCast, List.getD_eq_getElem?_getD, List.getElem?_eq_none (by omega)]; simp
theorem dotN_mono {l m : List Int} (hl : ∀ x ∈ l, 0 ≤ x) (hm : ∀ x ∈ m, 0 ≤ x) (i : Nat) : ∀ d, dotN l m i ≤ dotN l m (i + d)
 | 0 => Int.le_refl _
 | d + 1 => by
  have := dotN_mono hl hm i d
  have h2 := Int.mul_nonneg (rd_nn hm (i + d)) (rd_nn hl (i + d))
  rw [← Nat.add_assoc, dotN]; omega
theorem dotN_facts {l m : List Int} (hl : ∀ x ∈ l, 0 ≤ x) (hm : ∀ x ∈ m, 0 ≤ x) (hlm : l.length = m.length) {a : Int} (h : dotL l m = a) {i : Nat} (hi : i < l.length) : 0 ≤ dotN l m i ∧ 0 ≤ rd m (i : Int) * rd l (i : Int) ∧ dotN l m (i + 1) = dotN l m i + rd m (i : Int) * rd l (i : Int) ∧ dotN l m (i + 1) ≤ a := by
 have h1 := dotN_mono hl hm 0 i
 have h2 := dotN_mono hl hm (i + 1) (l.length - (i + 1))
 rw [show i + 1 + (l.length - (i + 1)) = l.length by omega, dotN_all l m hlm, h] at h2
 rw [Nat.zero_add] at h1
 exact ⟨h1, Int.mul_nonneg (rd_nn hm i) (rd_nn hl i), rfl, h2⟩
theorem dotL_app : ∀ (l m l' m' : List Int), l.length = m.length → dotL (l ++ l') (m ++ m') = dotL l m + dotL l' m'
 | [], [], l', m', _ => by simp [dotL]
 | c :: l, k :: m, l', m', h => by
  simp only [List.cons_append, dotL]
  rw [dotL_app l m l' m' (by simpa using h)]; omega
 | c :: l, [], _, _, h => by simp at h
 | [], k :: m, _, _, h => by simp at h
theorem dotL_rev : ∀ (l m : List Int), l.length = m.length → dotL l.reverse m.reverse = dotL l m
 | [], m, _ => by cases m <;> simp [dotL]
 | c :: l, k :: m, h => by
  rw [List.reverse_cons, List.reverse_cons, dotL_app _ _ _ _ (by simpa using h), dotL_rev l m (by simpa using h)]
  simp only [dotL]; omega
 | c :: l, [], h => by simp at h
theorem gr_dot : ∀ (R : List Int) (a : Int), dotL R (grR R a) + grE R a = a
 | [], a => by simp [dotL, grR, grE]
 | c :: t, a => by
  have := gr_dot t (a % c)
  have h2 := Int.mul_ediv_add_emod a c
  rw [Int.mul_comm] at h2
  simp only [grR, grE, dotL]; omega
/-- What greedy change takes of a kind is less than the next coin. -/
theorem gr_less {l : List Int} (h1 : ∀ x ∈ l, 1 ≤ x) {a : Int} (h0 : 0 ≤ a) {i : Nat} (hi : i + 1 < l.length) : rd ((grR l.reverse a).reverse) (i : Int) * rd l (i : Int) < rd l ((i + 1 : Nat) : Int) := by
 have e : l = l.take i ++ l[i] :: l[i + 1] :: l.drop (i + 2) := by
  rw [← List.drop_eq_getElem_cons, ← List.drop_eq_getElem_cons, List.take_append_drop]
 rw [rd_eq l i (by omega), rd_eq l (i + 1) hi]
 have c1 := h1 l[i] (List.getElem_mem _)
 have c2 := h1 l[i + 1] (List.getElem_mem _)
 generalize l[i] = c at e c1 ⊢
 generalize l[i + 1] = c' at e c2 ⊢
 have hti : (l.take i).length = i := by rw [List.length_take]; omega
 generalize l.take i = t at e hti
 have hp : ∀ x ∈ (l.drop (i + 2)).reverse, 1 ≤ x := fun x hx => h1 x (List.mem_of_mem_drop (List.mem_reverse.1 hx))
 generalize l.drop (i + 2) = p at e hp
 have er : l.reverse = p.reverse ++ c' :: c :: t.reverse := by rw [e]; simp
 have hE := grE_range p.reverse a hp h0
 rw [er, grR_app, grR, grR]
 generalize grE p.reverse a = E at hE ⊢
 have hrev : (grR p.reverse a ++ E / c' :: E % c' / c :: grR t.reverse (E % c' % c)).reverse = (grR t.reverse (E % c' % c)).reverse ++ (E % c' / c) :: ((E / c') :: (grR p.reverse a).reverse) := by simp
 have hlen : ((grR t.reverse (E % c' % c)).reverse).length = i := by rw [List.length_reverse, grR_length, List.length_reverse, hti]
 have hrd := rd_app (grR t.reverse (E % c' % c)).reverse (E % c' / c) ((E / c') :: (grR p.reverse a).reverse)
 rw [hlen] at hrd
 rw [hrev, hrd]
 have h3 := Int.ediv_mul_le (E % c') (show c ≠ 0 by omega)
 have h4 := Int.emod_lt_of_pos E (show 0 < c' by omega)
 omega
/-- Greedy change that comes out is change. -/
theorem gr_few {l : List Int} (h1 : ∀ x ∈ l, 1 ≤ x) {a : Int} (h0 : 0 ≤ a) (h : grE l.reverse a = 0) : 0 ≤ fewF l (-1) a ∧ fewF l (-1) a ≤ (grR l.reverse a).sum := by
 obtain ⟨n, h2, h3⟩ := gr_pay l.reverse a (fun x hx => ⟨List.mem_reverse.1 hx, h1 x (List.mem_reverse.1 hx)⟩) h0 h
 rcases fewF_cases h1 a with ⟨p, p1, p2, _, p4⟩ | ⟨p1, _⟩
 · rw [p4, h2]
   refine ⟨by omega, ?_⟩
   apply Classical.byContradiction
   intro q
   exact p2 n (by omega) h3
 exact absurd h3 (p1 n)
theorem fewC_failB {l : List Int} {a : Int} (c : (coinsB l && inB a 0 20000) = true) (hp : 0 ≤ fewF l (-1) a) : failB l a = (!(grC l a).2 || decide ((fewC l a).1 < (grN l a).1)) := by
 have e1 : fewC l a = (fewF l (-1) a, true) := by rw [fewC, if_pos ⟨c, hp⟩]
 obtain ⟨g, h0, h2, h1, hl8⟩ := asked_facts c
 have hs := gr_sum h1 a h0
 unfold failB
 rw [e1, decide_eq_true hp, Bool.true_and]
 by_cases d : grE l.reverse a = 0
 · have e2 : grC l a = ((grR l.reverse a).reverse, true) := by rw [grC, if_pos ⟨c, d⟩]
   have e3 : grN l a = ((grR l.reverse a).sum, true) := by rw [grN, e2, hs.2.1]
   rw [e2, e3]; simp [d]
 have e2 : grC l a = ([], false) := by rw [grC, if_neg (fun h => d h.2)]
 rw [e2]; simp [d]
theorem cg_l138 {l : List Int} (g : coinsB l = true) {m : Int} (hm : 1 ≤ m ∧ m ≤ 60) (h : allP l m) : ∀ (d n : Nat), 1 ≤ n → (n : Int) + d = m + 1 → ∃ K, ∀ k j, K ≤ k → K ≤ j → laws_FnChangeGiven.l138 k j l m (meanC l m).1 (meanC l m).2.1 (tab n (fewF l (-1))).sum (n : Int) = some true := by
 have h1 : ∀ x ∈ l, 1 ≤ x := fun x hx => ((coins_facts g).2.2.1 x hx).1
 have hf := coins_facts g
 intro d
 induction d with
 | zero =>
  intro n hn0 hn
  refine ⟨1, fun k j hk hj => ?_⟩
  obtain ⟨j', rfl⟩ : ∃ j', j = j' + 1 := ⟨j - 1, by omega⟩
  rw [laws_FnChangeGiven.l138, if_neg (by rw [decide_eq_false (by omega)]; decide)]
  unfold laws_FnChangeGiven.p143
  obtain ⟨f1, f2, f3, f4⟩ := mean_facts h1 (show 1 ≤ m ∧ m ≤ 2000 by omega) h
  have hB : (coinsB l && inB m 1 2000) = true := by rw [g]; unfold inB; rw [decide_eq_true (by omega), decide_eq_true (by omega)]; rfl
  rw [show meanC l m = (sumF l m / (Nat.gcd (sumF l m).toNat m.toNat : Nat), m / (Nat.gcd (sumF l m).toNat m.toNat : Nat), true) by rw [meanC, if_pos ⟨hB, h⟩]]
  simp only
  rw [show (tab n (fewF l (-1))).sum = sumF l m by unfold sumF; rw [show (m + 1).toNat = n by omega]]
  have d1 : ((Nat.gcd (sumF l m).toNat m.toNat : Nat) : Int) ∣ sumF l m := by
   have := Int.natCast_dvd_natCast.2 (Nat.gcd_dvd_left (sumF l m).toNat m.toNat)
   rwa [Int.toNat_of_nonneg f1] at this
  have d2 : ((Nat.gcd (sumF l m).toNat m.toNat : Nat) : Int) ∣ m := by
   have := Int.natCast_dvd_natCast.2 (Nat.gcd_dvd_right (sumF l m).toNat m.toNat)
   rwa [Int.toNat_of_nonneg (show 0 ≤ m by omega)] at this
  generalize ((Nat.gcd (sumF l m).toNat m.toNat : Nat) : Int) = G at f3 f4 d1 d2 ⊢
  have e : sumF l m * (m / G) = sumF l m / G * m := by
   obtain ⟨u, hu⟩ := d1
   obtain ⟨v, hv⟩ := d2
   rw [hu, Int.mul_ediv_cancel_left _ (by omega)]
   rw [hv, Int.mul_ediv_cancel_left _ (by omega)]
   rw [Int.mul_assoc, ← Int.mul_assoc u G v, Int.mul_comm u G, Int.mul_assoc G u v]
  rw [e]; simp
 | succ d ih =>
  intro n hn0 hn
  obtain ⟨K, hK⟩ := ih (n + 1) (by omega) (by omega)
  obtain ⟨K2, hK2⟩ := impl_FewestCoins.ev l (n : Int) (by omega)
  replace hK2 : ∀ k, K2 ≤ k → impl_FewestCoins.f k l (n : Int) = some (fewC l (n : Int)) := hK2
  have hp := allP_few h1 h (n : Int) (by omega) (by omega)
  have hA : (coinsB l && inB (n : Int) 0 20000) = true := by rw [g]; unfold inB; rw [decide_eq_true (by omega), decide_eq_true (by omega)]; rfl
  have e1 : fewC l (n : Int) = (fewF l (-1) n, true) := by rw [fewC, if_pos ⟨hA, hp.1⟩]
  have hsum := tab_sum_le (fewF l (-1)) n (fun a h0 h2 => by have := allP_few h1 h a h0 (by omega); exact ⟨this.1, this.2.1⟩)
  have hnn : (n : Int) * n ≤ 60 * 60 := Int.mul_le_mul (by omega) (by omega) (by omega) (by omega)
  have es : (tab (n + 1) (fewF l (-1))).sum = (tab n (fewF l (-1))).sum + fewF l (-1) n := by
   unfold tab; rw [List.range_succ, List.map_append, List.sum_append]; simp
  refine ⟨K + K2 + 1, fun k j hk hj => ?_⟩
  obtain ⟨j', rfl⟩ : ∃ j', j = j' + 1 := ⟨j - 1, by omega⟩
  rw [laws_FnChangeGiven.l138, if_pos (by rw [decide_eq_true (by omega)]), hK2 k (by omega), Option.bind_some, e1]
  simp only
  rw [if_pos trivial]
  unfold laws_FnChangeGiven.p142
  rw [w64 (n := (tab n (fewF l (-1))).sum + fewF l (-1) n) (by omega) (by omega), ← es, w64 (by omega) (by omega)]
  exact hK k j' (by omega) (by omega)
theorem cg_p134 (l : List Int) (m : Int) : Ev (fun k => laws_FnChangeGiven.p134 k l m (meanC l m).1 (meanC l m).2.1 (meanC l m).2.2) true := by
 unfold laws_FnChangeGiven.p134
 refine Ev.bind (a := (meanC l m).2.2 && decide (m ≤ 60)) (Ev.ite (fun h => Ev.val (by rw [h]; rfl)) (fun h => Ev.val (by rw [(Bool.not_eq_true _).mp h]; rfl))) (Ev.ite (fun h => ?_) (fun _ => Ev.val rfl))
 rw [Bool.and_eq_true, decide_eq_true_eq] at h
 have hh : (coinsB l && inB m 1 2000) = true ∧ allP l m := by
  apply Classical.byContradiction
  intro q
  have := h.1
  rw [meanC, if_neg q] at this
  cases this
 have hm : coinsB l = true ∧ 1 ≤ m ∧ m ≤ 2000 := by
  have := hh.1
  unfold inB at this
  simpa using this
 have h1 : ∀ x ∈ l, 1 ≤ x := fun x hx => ((coins_facts hm.1).2.2.1 x hx).1
 obtain ⟨K, hK⟩ := cg_l138 hm.1 ⟨hm.2.1, h.2⟩ hh.2 m.toNat 1 (by omega) (by omega)
 have e : (tab 1 (fewF l (-1))).sum = 0 := by simp [tab, fewF_zero]
 rw [e] at hK
 exact ⟨K, fun k hk => hK k k hk hk⟩
theorem failU_rises (l : List Int) (m : Int) : risesB (failL l m) = true := rises_of_pairwise _ (failL_rises l m)
noncomputable def fuC (l : List Int) (m : Int) : List Int × Bool := if (coinsB l && inB m 0 2000) = true then (failL l m, true) else ([], false)
theorem failL_len (l : List Int) (m : Int) (h : 0 ≤ m) : (failL l m).length ≤ m.toNat + 1 := by
 have := flt_le (fun a => failB l a) (m + 1).toNat
 unfold failL; omega
theorem cg_p119 (l : List Int) (m : Int) (hl : l.length ≤ 1000) : Ev (fun k => laws_FnChangeGiven.p119 k l m (fuC l m).1 (fuC l m).2 (meanC l m).1 (meanC l m).2.1 (meanC l m).2.2) true := by
 unfold laws_FnChangeGiven.p119
 refine Ev.ite (fun h => ?_) (fun _ => cg_p134 l m)
 have hh : (coinsB l && inB m 0 2000) = true := by
  apply Classical.byContradiction
  intro q
  rw [fuC, if_neg q] at h
  cases h
 have hm : coinsB l = true ∧ 0 ≤ m ∧ m ≤ 2000 := by
  unfold inB at hh; simpa using hh
 have e : fuC l m = (failL l m, true) := by rw [fuC, if_pos hh]
 have hlen := failL_len l m hm.2.1
 rw [e]
 simp only
 refine Ev.bind (impl_FirstFailure.ev l (by omega)) (Ev.bind (laws_tRises.ev _ (by omega)) (Ev.neg (by rw [failU_rises]; decide) ?_))
 have key : (failL l m = [] ∧ ((ffC l).2 = true → m < (ffC l).1)) ∨ (∃ t, failL l m = (ffC l).1 :: t ∧ (ffC l).2 = true) := by
  rcases ff_cases hm.1 with ⟨p, p1, p2, p3, p4, p5⟩ | ⟨p1, p5⟩
  · have e2 : ffC l = ((p : Int), true) := by rw [ffC, p5, if_pos ⟨hm.1, by omega⟩]
    rw [e2]
    by_cases c : (p : Int) ≤ m
    · right
      rcases filter_rg_first (fun a => failB l a) (m + 1).toNat 0 with ⟨q1, _⟩ | ⟨j, _, j1, j2, j3, t, ht⟩
      · have := q1 p (by omega) (by omega); simp [p1] at this
      have : j = p := by
       rcases Nat.lt_trichotomy j p with c1 | c1 | c1
       · have := p2 j c1; simp [this] at j2
       · exact c1
       have := j3 p (by omega) c1; simp [p1] at this
      exact ⟨t, by unfold failL; rw [ht, this], rfl⟩
    left
    refine ⟨?_, fun _ => by simp only; omega⟩
    rcases filter_rg_first (fun a => failB l a) (m + 1).toNat 0 with ⟨_, q1⟩ | ⟨j, _, j1, j2, j3, t, ht⟩
    · exact q1
    have := p2 j (by omega); simp [this] at j2
  left
  have e2 : ffC l = (0, false) := by rw [ffC, p5, if_neg (fun h => absurd h.2 (by omega))]
  refine ⟨?_, fun h => by rw [e2] at h; cases h⟩
  rcases filter_rg_first (fun a => failB l a) (m + 1).toNat 0 with ⟨_, q1⟩ | ⟨j, _, j1, j2, j3, t, ht⟩
  · exact q1
  have := p1 j; simp [this] at j2
 rcases key with ⟨k1, k2⟩ | ⟨t, k1, k2⟩
 · rw [k1]
   refine Ev.bind (a := false) (Ev.neg (by decide) (Ev.val rfl)) (Ev.neg (by decide) ?_)
   refine Ev.bind (a := false) (Ev.ite (fun h2 => Ev.val (decide_eq_false (by have := k2 h2; omega))) (fun _ => Ev.val rfl)) ?_
   exact Ev.bind (a := false) (Ev.neg (by decide) (Ev.val rfl)) (Ev.neg (by decide) (cg_p134 l m))
 rw [k1, k2]
 refine Ev.bind (a := false) (Ev.pos (by rw [List.length_cons, decide_eq_true (by omega)]) (Ev.bind (a := false) (Ev.neg (by decide) (Ev.pos (by rw [List.length_cons, decide_eq_true (show (0 : Int) < ((t.length + 1 : Nat) : Int) by omega)]; rfl) (Ev.val (by simp [rd])))) (Ev.val rfl))) (Ev.neg (by decide) ?_)
 refine Ev.bind (a := decide ((ffC l).1 ≤ m)) (Ev.pos rfl (Ev.val rfl)) ?_
 refine Ev.bind (a := false) (Ev.ite (fun _ => Ev.val (by rw [List.length_cons]; apply beq_false_of_ne; omega)) (fun _ => Ev.val rfl)) (Ev.neg (by decide) (cg_p134 l m))
theorem cg_p81 {l1 : List Int} (B1 : BytesL l1) : Ev (fun k => laws_FnChangeGiven.p81 k l1) true := by
 unfold laws_FnChangeGiven.p81
 obtain ⟨l, hD, hl⟩ := drawAreCoins_ev B1
 have hD' : Ev (fun k => spec_DrawFirstFailure.f k l1) l := by unfold spec_DrawFirstFailure.f; exact Ev.bind hD (Ev.now _)
 obtain ⟨o, m, hE, ho⟩ := drawFailuresUpTo_ev B1
 refine Ev.bind hD' (Ev.bind (impl_FirstFailure.ev l (by omega)) (Ev.bind (spec_FirstFailure.ev l (by omega)) (Ev.bind (impl_IsGreedy.ev l (by omega)) (Ev.bind (spec_IsGreedy.ev l (by omega)) (Ev.bind hE (Ev.bind (impl_FailuresUpTo.ev o m (by omega)) (Ev.bind (spec_FailuresUpTo.ev o m (by omega)) ?_)))))))
 have efu : (if (coinsB o && inB m 0 2000) = true then (failL o m, true) else (([] : List Int), false)) = fuC o m := rfl
 rw [efu]
 unfold laws_FnChangeGiven.p90
 have hs : ∀ (x : List Int), x.length ≤ 1000000 → Ev (fun k => laws_tSame.f k x x) true := fun x hx => Ev.eq (laws_tSame.ev x x (by omega)) (by simp)
 have hfl : (fuC o m).1.length ≤ 1000000 := by
  unfold fuC
  split
  · rename_i c
    have hm : coinsB o = true ∧ 0 ≤ m ∧ m ≤ 2000 := by unfold inB at c; simpa using c
    have := failL_len o m hm.2.1
    simp only; omega
  simp
 refine Ev.bind (impl_MeanCoins.ev o m (by omega)) (Ev.bind (spec_MeanCoins.ev o m (by omega)) (Ev.neg (by simp) (Ev.neg (by simp) (Ev.neg (by simp) (Ev.neg (by simp) (Ev.bind (impl_AreCoins.ev l (by omega)) (Ev.neg (by simp) ?_)))))))
 refine Ev.bind (a := coinsB l && !(coinsB l && !(ffC l).2)) (Ev.ite (c := coinsB l = true) (fun h => Ev.val (by rw [h]; rfl)) (fun h => Ev.val (by rw [(Bool.not_eq_true _).mp h]; rfl))) (Ev.neg ?_ (Ev.neg (by simp) (Ev.bind (hs _ hfl) (Ev.neg (by decide) (Ev.neg (by simp) (Ev.neg (by simp) (Ev.neg (by simp) ?_)))))))
 · unfold ffC
   cases g : coinsB l with
   | false => simp
   | true => by_cases q : 0 ≤ ffF l <;> simp [q]
 refine Ev.bind (a := false) (Ev.ite (fun h => Ev.val ?_) (fun _ => Ev.val rfl)) (Ev.neg (by decide) ?_)
 · have hh : (coinsB o && inB m 1 2000) = true := by
    apply Classical.byContradiction
    intro q
    rw [meanC, if_neg (fun z => q z.1)] at h
    cases h
   have hm : coinsB o = true ∧ 1 ≤ m ∧ m ≤ 2000 := by unfold inB at hh; simpa using hh
   have : (coinsB o && inB m 0 2000) = true := by rw [hm.1]; unfold inB; rw [decide_eq_true (by omega), decide_eq_true (by omega)]; rfl
   rw [fuC, if_pos this]; rfl
 refine Ev.ite (fun h => ?_) (fun _ => cg_p119 o m (by omega))
 refine Ev.bind (impl_FewestCoins.ev l _ (by omega)) (Ev.bind (impl_GreedyCount.ev l _ (by omega)) ?_)
 have hh : coinsB l = true ∧ 0 ≤ ffF l := by
  apply Classical.byContradiction
  intro q
  rw [ffC, if_neg q] at h
  cases h
 have e : ffC l = (ffF l, true) := by rw [ffC, if_pos hh]
 rw [e]
 simp only
 refine Ev.bind (a := false) (Ev.ite (fun h2 => ?_) (fun _ => Ev.val rfl)) (Ev.neg (by decide) (cg_p119 o m (by omega)))
 rw [decide_eq_true_eq] at h2
 have hA : (coinsB l && inB (ffF l) 0 20000) = true := by rw [hh.1]; unfold inB; rw [decide_eq_true hh.2, decide_eq_true h2]; rfl
 have hfb : failB l (ffF l) = true := by
  rcases ff_cases hh.1 with ⟨p, p1, p2, p3, p4, p5⟩ | ⟨p1, p5⟩
  · rw [p5]; exact p1
  have := hh.2; omega
 have hpay : 0 ≤ fewF l (-1) (ffF l) := by
  unfold failB at hfb
  simp only [Bool.and_eq_true, decide_eq_true_eq] at hfb
  exact hfb.1
 have hk := fewC_failB hA hpay
 have e1 : fewC l (ffF l) = (fewF l (-1) (ffF l), true) := by rw [fewC, if_pos ⟨hA, hpay⟩]
 rw [hfb] at hk
 refine Ev.bind (a := false) (Ev.neg (by rw [e1]; simp) (Ev.bind (a := false) (Ev.ite (fun h3 => Ev.val ?_) (fun _ => Ev.val rfl)) (Ev.val rfl))) (Ev.val rfl)
 have h4 : (grC l (ffF l)).2 = true := h3
 rw [h4, Bool.not_true, Bool.false_or] at hk
 have := of_decide_eq_true hk.symm
 exact decide_eq_false (by omega)
theorem cg_p73 {l1 : List Int} (B1 : BytesL l1) {l : List Int} {a : Int} (c : (coinsB l && inB a 0 20000) = true) (hp : 0 ≤ fewF l (-1) a) : Ev (fun k => laws_FnChangeGiven.p73 k l1 l a (fewC l a).1 (grC l a).2 (grN l a).1) true := by
 unfold laws_FnChangeGiven.p73
 refine Ev.ite (fun h => ?_) (fun _ => cg_p81 B1)
 rw [decide_eq_true_eq] at h
 obtain ⟨g, h0, h2, h1, hl8⟩ := asked_facts c
 have hA : (coinsB l && inB a 0 2000) = true := by rw [g]; unfold inB; rw [decide_eq_true h0, decide_eq_true h]; rfl
 have hlen := failL_len l a h0
 refine Ev.bind (Ev.eq (impl_FailuresUpTo.ev l a (by omega)) (if_pos hA)) (Ev.pos rfl (Ev.bind (laws_tHas.ev (failL l a) a (by omega)) ?_))
 refine Ev.bind (a := failB l a) (Ev.eq (Ev.ite (c := (!(grC l a).2) = true) (r := (!(grC l a).2 || decide ((fewC l a).1 < (grN l a).1))) (fun q => Ev.val (by rw [q]; rfl)) (fun q => Ev.val (by rw [(Bool.not_eq_true _).mp q]; rfl))) (fewC_failB c hp).symm) (Ev.neg ?_ (cg_p81 B1))
 have : decide (a ∈ failL l a) = failB l a := by
  rw [Bool.eq_iff_iff, decide_eq_true_eq, mem_failL]
  exact ⟨fun q => q.2, fun q => ⟨⟨h0, Int.le_refl _⟩, q⟩⟩
 rw [this]; simp
theorem cg_l54s {l1 l m : List Int} {few cnt a : Int} (hl8 : l.length ≤ 8) (h0 : 0 ≤ a) (h2 : a ≤ 20000) (h1 : ∀ x ∈ l, 0 ≤ x) (b1 : m.length = l.length) (b2 : ∀ x ∈ m, 0 ≤ x) (b4 : dotL l m = a) (hless : ∀ i : Nat, i + 1 < l.length → rd m (i : Int) * rd l (i : Int) < rd l ((i + 1 : Nat) : Int)) (h68 : Ev (fun k => laws_FnChangeGiven.p68 k l1 l a few m true cnt a) true) : ∀ (d i : Nat), i + d = l.length → ∃ K, ∀ k n, K ≤ k → K ≤ n → laws_FnChangeGiven.l54 k n l1 l a few m true cnt (dotN l m i) m (m.length : Int) (i : Int) = some true := by
 intro d
 induction d with
 | zero =>
  intro i hi
  obtain ⟨K, hK⟩ := h68
  refine ⟨K + 1, fun k n hk hn => ?_⟩
  obtain ⟨n', rfl⟩ : ∃ n', n = n' + 1 := ⟨n - 1, by omega⟩
  have c1 : ¬ (decide ((i : Int) < (m.length : Int)) = true) := by rw [decide_eq_true_eq]; omega
  rw [laws_FnChangeGiven.l54, if_neg c1, show i = l.length by omega, dotN_all _ _ b1.symm, b4]
  exact hK k (by omega)
 | succ d ih =>
  intro i hi
  obtain ⟨K, hK⟩ := ih (i + 1) (by omega)
  obtain ⟨f1, f2, f3, f4⟩ := dotN_facts h1 b2 b1.symm b4 (show i < l.length by omega)
  have c1 : decide ((i : Int) < (m.length : Int)) = true := decide_eq_true (by omega)
  have c2 : decide ((0 : Int) ≤ (i : Int)) = true := decide_eq_true (by omega)
  have c3 : decide ((i : Int) < (l.length : Int)) = true := decide_eq_true (by omega)
  have c4 : decide ((0 : Int) ≤ ((i + 1 : Nat) : Int)) = true := decide_eq_true (by omega)
  have ew : wrap64 ((i : Int) + 1) = ((i + 1 : Nat) : Int) := by rw [w64 (by omega) (by omega)]; omega
  rw [f3] at hK f4
  have ea : wrap64 (rd m (i : Int) * rd l (i : Int)) = rd m (i : Int) * rd l (i : Int) := w64 (by omega) (by omega)
  have eb : wrap64 (dotN l m i + rd m (i : Int) * rd l (i : Int)) = dotN l m i + rd m (i : Int) * rd l (i : Int) := w64 (by omega) (by omega)
  have tt : (true && true) = true := rfl
  have hin : (if decide (((i + 1 : Nat) : Int) < (l.length : Int)) = true then (if (true && true) = true then (if (true && decide (((i + 1 : Nat) : Int) < (l.length : Int))) = true then (some (decide (rd l ((i + 1 : Nat) : Int) ≤ rd m (i : Int) * rd l (i : Int)))) else none) else none) else (some false)) = some false := by
   by_cases q : i + 1 < l.length
   · have := hless i q
     have c5 : decide (((i + 1 : Nat) : Int) < (l.length : Int)) = true := decide_eq_true (by omega)
     have c6 : decide (rd l ((i + 1 : Nat) : Int) ≤ rd m (i : Int) * rd l (i : Int)) = false := decide_eq_false (by omega)
     rw [c5, c6]; rfl
   have c5 : decide (((i + 1 : Nat) : Int) < (l.length : Int)) = false := decide_eq_false (by omega)
   rw [c5]; rfl
  refine ⟨K + 1, fun k n hk hn => ?_⟩
  obtain ⟨n', rfl⟩ : ∃ n', n = n' + 1 := ⟨n - 1, by omega⟩
  have hK' := hK k n' (by omega) (by omega)
  rw [laws_FnChangeGiven.l54, if_pos c1, c2, c1, c3, if_pos tt, ew, ea, eb, c4, if_pos tt, hin, Option.bind_some, if_neg (by decide)]
  unfold laws_FnChangeGiven.p67
  rw [ew]
  exact hK'
theorem cg_l54 {l1 : List Int} (B1 : BytesL l1) {l : List Int} {a : Int} (c : (coinsB l && inB a 0 20000) = true) (hp : 0 ≤ fewF l (-1) a) (hg : grE l.reverse a = 0) : ∃ K, ∀ k n, K ≤ k → K ≤ n → laws_FnChangeGiven.l54 k n l1 l a (fewC l a).1 (grR l.reverse a).reverse true (grN l a).1 0 (grR l.reverse a).reverse (((grR l.reverse a).reverse).length : Int) 0 = some true := by
 obtain ⟨g, h0, h2, h1, hl8⟩ := asked_facts c
 have hs := gr_sum h1 a h0
 have e1 : fewC l a = (fewF l (-1) a, true) := by rw [fewC, if_pos ⟨c, hp⟩]
 have e2 : grC l a = ((grR l.reverse a).reverse, true) := by rw [grC, if_pos ⟨c, hg⟩]
 have e3 : grN l a = ((grR l.reverse a).sum, true) := by rw [grN, e2, hs.2.1]
 have hd : dotL l (grR l.reverse a).reverse = a := by
  have := gr_dot l.reverse a
  rw [hg, Int.add_zero] at this
  have h3 := dotL_rev l.reverse (grR l.reverse a) (by rw [grR_length])
  rw [List.reverse_reverse] at h3
  rw [h3, this]
 refine cg_l54s hl8 h0 h2 (fun x hx => by have := h1 x hx; omega) hs.2.2.2.2 hs.1 hd (fun i hi => gr_less h1 h0 hi) ?_ l.length 0 (by omega)
 have h73 := cg_p73 B1 c hp
 have hf := gr_few h1 h0 hg
 rw [e2, e3, e1] at h73
 rw [e3, e1]
 unfold laws_FnChangeGiven.p68
 refine Ev.neg (by simp) (Ev.bind (laws_tSum.ev (grR l.reverse a).reverse (by omega) hs.1 (by omega)) (Ev.neg (by rw [hs.2.1]; simp) (Ev.neg ?_ h73)))
 rw [decide_eq_true_eq]; simp only; omega
theorem cg_p48 {l1 : List Int} (B1 : BytesL l1) {l : List Int} {a : Int} (c : (coinsB l && inB a 0 20000) = true) (hp : 0 ≤ fewF l (-1) a) : Ev (fun k => laws_FnChangeGiven.p48 k l1 l a (bestC l a).1 (fewC l a).1 (grC l a).1 (grC l a).2 (grN l a).1 a) true := by
 unfold laws_FnChangeGiven.p48
 obtain ⟨g, h0, h2, h1, hl8⟩ := asked_facts c
 have e1 : fewC l a = (fewF l (-1) a, true) := by rw [fewC, if_pos ⟨c, hp⟩]
 have eb : bestC l a = (bstF l (fewF l (-1) a).toNat a, true) := by rw [bestC, if_pos ⟨c, hp⟩]
 have hM : MinP l (fewF l (-1) a).toNat a ∧ fewF l (-1) a ≤ a := by
  rcases fewF_cases h1 a with ⟨p, p1, p2, p3, p4⟩ | ⟨p1, p4⟩
  · rw [p4, Int.toNat_natCast]; exact ⟨⟨p1, p2⟩, p3⟩
  rw [p4] at hp; omega
 obtain ⟨b1, b2, b3, b4⟩ := bst_pay l _ a h1 hM.1
 have h73 := cg_p73 B1 c hp
 rw [e1] at h73 ⊢
 rw [eb]
 simp only at h73 ⊢
 refine Ev.neg (by simp) (Ev.bind (laws_tSum.ev _ (by omega) b2 (by omega)) (Ev.neg (by rw [b3]; simp; omega) (Ev.neg (by rw [b1]; simp) (Ev.ite (fun h => ?_) (fun _ => h73)))))
 have hg : grE l.reverse a = 0 := by
  apply Classical.byContradiction
  intro q
  rw [grC, if_neg (fun z => q z.2)] at h
  cases h
 have e2 : grC l a = ((grR l.reverse a).reverse, true) := by rw [grC, if_pos ⟨c, hg⟩]
 obtain ⟨K, hK⟩ := cg_l54 B1 c hp hg
 rw [e1] at hK
 rw [e2]
 exact ⟨K, fun k hk => hK k k hk hk⟩
theorem cg_l41s {l1 l m G : List Int} {few cnt a : Int} {bg : Bool} (hl8 : l.length ≤ 8) (h0 : 0 ≤ a) (h2 : a ≤ 20000) (h1 : ∀ x ∈ l, 0 ≤ x) (b1 : m.length = l.length) (b2 : ∀ x ∈ m, 0 ≤ x) (b4 : dotL l m = a) (h48 : Ev (fun k => laws_FnChangeGiven.p48 k l1 l a m few G bg cnt a) true) : ∀ (d i : Nat), i + d = l.length → ∃ K, ∀ k n, K ≤ k → K ≤ n → laws_FnChangeGiven.l41 k n l1 l a m few G bg cnt (dotN l m i) m (m.length : Int) (i : Int) = some true := by
 intro d
 induction d with
 | zero =>
  intro i hi
  obtain ⟨K, hK⟩ := h48
  refine ⟨K + 1, fun k n hk hn => ?_⟩
  obtain ⟨n', rfl⟩ : ∃ n', n = n' + 1 := ⟨n - 1, by omega⟩
  have c1 : ¬ (decide ((i : Int) < (m.length : Int)) = true) := by rw [decide_eq_true_eq]; omega
  rw [laws_FnChangeGiven.l41, if_neg c1, show i = l.length by omega, dotN_all _ _ b1.symm, b4]
  exact hK k (by omega)
 | succ d ih =>
  intro i hi
  obtain ⟨K, hK⟩ := ih (i + 1) (by omega)
  obtain ⟨f1, f2, f3, f4⟩ := dotN_facts h1 b2 b1.symm b4 (show i < l.length by omega)
  have c1 : decide ((i : Int) < (m.length : Int)) = true := decide_eq_true (by omega)
  have c2 : decide ((0 : Int) ≤ (i : Int)) = true := decide_eq_true (by omega)
  have c3 : decide ((i : Int) < (l.length : Int)) = true := decide_eq_true (by omega)
  have ew : wrap64 ((i : Int) + 1) = ((i + 1 : Nat) : Int) := by rw [w64 (by omega) (by omega)]; omega
  rw [f3] at hK f4
  have ea : wrap64 (rd m (i : Int) * rd l (i : Int)) = rd m (i : Int) * rd l (i : Int) := w64 (by omega) (by omega)
  have eb : wrap64 (dotN l m i + rd m (i : Int) * rd l (i : Int)) = dotN l m i + rd m (i : Int) * rd l (i : Int) := w64 (by omega) (by omega)
  refine ⟨K + 1, fun k n hk hn => ?_⟩
  obtain ⟨n', rfl⟩ : ∃ n', n = n' + 1 := ⟨n - 1, by omega⟩
  have hK' := hK k n' (by omega) (by omega)
  rw [laws_FnChangeGiven.l41, if_pos c1, c2, c1, c3, if_pos (show (true && true) = true from rfl), if_pos (show (true && true) = true from rfl), ea, eb]
  unfold laws_FnChangeGiven.p47
  rw [ew]
  exact hK'
theorem cg_l41 {l1 : List Int} (B1 : BytesL l1) {l : List Int} {a : Int} (c : (coinsB l && inB a 0 20000) = true) (hp : 0 ≤ fewF l (-1) a) : ∃ K, ∀ k n, K ≤ k → K ≤ n → laws_FnChangeGiven.l41 k n l1 l a (bestC l a).1 (fewC l a).1 (grC l a).1 (grC l a).2 (grN l a).1 0 (bestC l a).1 ((bestC l a).1.length : Int) 0 = some true := by
 obtain ⟨g, h0, h2, h1, hl8⟩ := asked_facts c
 have eb : bestC l a = (bstF l (fewF l (-1) a).toNat a, true) := by rw [bestC, if_pos ⟨c, hp⟩]
 have hM : MinP l (fewF l (-1) a).toNat a ∧ fewF l (-1) a ≤ a := by
  rcases fewF_cases h1 a with ⟨p, p1, p2, p3, p4⟩ | ⟨p1, p4⟩
  · rw [p4, Int.toNat_natCast]; exact ⟨⟨p1, p2⟩, p3⟩
  rw [p4] at hp; omega
 obtain ⟨b1, b2, b3, b4⟩ := bst_pay l _ a h1 hM.1
 have h48 := cg_p48 B1 c hp
 rw [eb] at h48 ⊢
 exact cg_l41s hl8 h0 h2 (fun x hx => by have := h1 x hx; omega) b1 b2 b4 h48 l.length 0 (by omega)
theorem cg_p10 {l1 : List Int} (B1 : BytesL l1) (l : List Int) (a : Int) (hl : l.length ≤ 20) : Ev (fun k => laws_FnChangeGiven.p10 k l1 l a (bestC l a).1 (bestC l a).2 (bestC l a).1 (bestC l a).2 (fewC l a).1 (fewC l a).2 (fewC l a).1 (fewC l a).2 (grC l a).1 (grC l a).2) true := by
 unfold laws_FnChangeGiven.p10
 have hs : ∀ (x : List Int), x.length ≤ 1000000 → Ev (fun k => laws_tSame.f k x x) true := fun x hx => Ev.eq (laws_tSame.ev x x (by omega)) (by simp)
 have hgl := (grC_sum l a).2.2
 have hbl : (bestC l a).1.length ≤ 1000000 := by
  unfold bestC
  split
  · rename_i q
    obtain ⟨g, h0, h2, h1, hl8⟩ := asked_facts q.1
    have hM : MinP l (fewF l (-1) a).toNat a := by
     rcases fewF_cases h1 a with ⟨p, p1, p2, p3, p4⟩ | ⟨p1, p4⟩
     · rw [p4, Int.toNat_natCast]; exact ⟨p1, p2⟩
     have := q.2; rw [p4] at this; omega
    have := (bst_pay l _ a h1 hM).1
    simp only; omega
  simp
 have ebf : (bestC l a).2 = (fewC l a).2 := by unfold bestC fewC; split <;> rfl
 have hgo : ((coinsB l && inB a 0 20000) = true ∧ 0 ≤ fewF l (-1) a) ↔ (bestC l a).2 = true := by
  unfold bestC
  by_cases q : (coinsB l && inB a 0 20000) = true ∧ 0 ≤ fewF l (-1) a
  · rw [if_pos q]; simp [q.1, q.2]
  rw [if_neg q]; exact ⟨fun z => absurd z q, fun z => by cases z⟩
 have hA : ∀ k, (spec_AreCoins.f k l) = (spec_cnGood.f k l).bind fun t => some t := fun k => by unfold spec_AreCoins.f; rfl
 refine Ev.bind (spec_GreedyChange.ev l a (by omega)) (Ev.bind (impl_GreedyCount.ev l a (by omega)) (Ev.bind (spec_GreedyCount.ev l a (by omega)) (Ev.bind (impl_CountChange.ev l a (by omega)) (Ev.bind (spec_CountChange.ev l a (by omega)) (Ev.neg (by simp) (Ev.bind (hs _ hbl) (Ev.neg (by decide) (Ev.neg (by simp) (Ev.neg (by simp) (Ev.neg (by simp) (Ev.bind (hs _ (by omega)) (Ev.neg (by decide) (Ev.neg (by simp) (Ev.neg (by simp) (Ev.neg (by simp) (Ev.neg (by simp) (Ev.neg (by rw [ebf]; simp) (Ev.neg (by simp [grN]) ?_))))))))))))))))))
 refine Ev.bind (a := false) (Ev.ite (fun h => Ev.val ?_) (fun _ => Ev.val rfl)) (Ev.neg (by decide) (Ev.bind (a := false) (Ev.ite (fun h => Ev.val ?_) (fun _ => Ev.val rfl)) (Ev.neg (by decide) (Ev.bind (impl_AreCoins.ev l (by omega)) (Ev.bind (a := coinsB l) (Ev.congr hA (Ev.bind (spec_cnGood.ev l (by omega)) (Ev.now _))) (Ev.neg (by simp) (Ev.bind (a := false) (Ev.ite (fun h => Ev.bind (impl_AreCoins.ev l (by omega)) (Ev.val ?_)) (fun _ => Ev.val rfl)) (Ev.neg (by decide) (Ev.ite (fun h => ?_) (fun _ => cg_p81 B1))))))))))
 · have hh : (coinsB l && inB a 0 20000) = true ∧ grE l.reverse a = 0 := by
    apply Classical.byContradiction
    intro q
    rw [grC, if_neg q] at h
    cases h
   obtain ⟨g, h0, h2, h1, hl8⟩ := asked_facts hh.1
   rw [hgo.1 ⟨hh.1, (gr_few h1 h0 hh.2).1⟩]; rfl
 · have hh : (coinsB l && inB a 0 20000) = true ∧ waysF l a ≤ 1000000000000000 := by
    apply Classical.byContradiction
    intro q
    rw [waysC, if_neg q] at h
    cases h
   obtain ⟨g, h0, h2, h1, hl8⟩ := asked_facts hh.1
   rw [waysC, if_pos hh]
   simp only
   have : decide (0 < waysF l a) = (bestC l a).2 := by
    rw [Bool.eq_iff_iff, decide_eq_true_eq, waysF_pos l h1 a h0, ← hgo]
    constructor
    · rintro ⟨n, hn⟩
      refine ⟨hh.1, ?_⟩
      rcases fewF_cases h1 a with ⟨p, p1, p2, p3, p4⟩ | ⟨p1, p4⟩
      · rw [p4]; omega
      exact absurd hn (p1 n)
    rintro ⟨_, q⟩
    rcases fewF_cases h1 a with ⟨p, p1, p2, p3, p4⟩ | ⟨p1, p4⟩
    · exact ⟨p, p1⟩
    rw [p4] at q; omega
   rw [this]; simp
 · have := (hgo.2 h).1
   rw [(asked_facts this).1]; rfl
 obtain ⟨c, hp⟩ := hgo.2 h
 obtain ⟨K, hK⟩ := cg_l41 B1 c hp
 exact ⟨K, fun k hk => hK k k hk hk⟩
theorem FnChangeGiven : laws_FnChangeGiven.Pure := by
 intro l0 l1 _ _ w0 _ _ w1
 suffices h : Ev (fun k => laws_FnChangeGiven.f k l0 l1) true by
  obtain ⟨K, hK⟩ := h; exact ⟨K, hK K (Nat.le_refl _)⟩
 unfold laws_FnChangeGiven.f laws_FnChangeGiven.p1
 by_cases hb : laws_big.f l0 l1 = some true
 · exact Ev.bindc hb (Ev.pos rfl (Ev.val rfl))
 obtain ⟨hl0, hl1, hb⟩ := big_no hb
 refine Ev.bindc hb (Ev.neg (by decide) ?_)
 have B0 := bytes_of hl0 w0
 have B1 := bytes_of hl1 w1
 obtain ⟨l, a, hD, hl⟩ := drawGreedyChange_ev B0
 have hD' : Ev (fun k => spec_DrawBestChange.f k l0) (l, a) := by unfold spec_DrawBestChange.f; exact Ev.bind hD (Ev.now _)
 exact Ev.bind hD' (Ev.bind (impl_BestChange.ev l a (by omega)) (Ev.bind (spec_BestChange.ev l a (by omega)) (Ev.bind (impl_FewestCoins.ev l a (by omega)) (Ev.bind (spec_FewestCoins.ev' l a (by omega)) (Ev.bind (impl_GreedyChange.ev l a (by omega)) (cg_p10 B1 l a hl))))))
end Go.Proofs.Ytjjajbgijncfoaa.Pure
