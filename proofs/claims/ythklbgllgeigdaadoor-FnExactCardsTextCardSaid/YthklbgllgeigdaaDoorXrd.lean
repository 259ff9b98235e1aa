/- What a law's argument reads as: from the reading of a slice of structs or of slices, or of a struct, to the words of the print. No conditions. -/
import Derived.Test.YthklbgllgeigdaaDoorWMore
import Derived.Lib.SmallJoins
import Derived.Deep.Slices
import Derived.ProofKit
import Derived.WalkKit
namespace Go.Proofs.YthklbgllgeigdaaDoor.Xrd
open Go.RowKit Go.ChangeShapes Go.WideShapes Go.Joins Go.Deep Go.Proofs.YthklbgllgeigdaaDoorW.PrintWords
set_option linter.unusedVariables false

/-- Whatever reads as data at this type is told by K. -/
def Opens (P : Program) (t : TypeId) {α : Type} (K : World → α → List Value → Prop) : Prop :=
  ∀ {H : Type} {enc : TypeId × Value → H} {w : World} {base : Nat} {spare : Nat → Bool} {held : Bool} {fuel : Nat} {cs : List Value} {x : DataW H × List MemPlace},
    DataW.trod enc P w base spare held fuel t cs = some x → ∃ a : α, K w a cs

theorem opens_int {P : Program} {t : TypeId} {k : IntKind} (ht : P.underlying t = some (.int k)) : Opens P t (Kd.int k).K := by
  intro H enc w base spare held fuel cs x h
  obtain ⟨n, rfl, _, _⟩ := DataW.trod_int ht h
  exact ⟨n, rfl⟩

theorem list_of {α : Type} {Q : Nat → α → Prop} : ∀ n, (∀ i, i < n → ∃ x, Q i x) → ∃ xs : List α, xs.length = n ∧ ∀ j p, xs[j]? = some p → Q j p
  | 0, _ => ⟨[], rfl, fun j p h => by simp at h⟩
  | n + 1, h => by
    obtain ⟨xs, hl, hx⟩ := list_of n (fun i hi => h i (by omega))
    obtain ⟨x, hq⟩ := h n (by omega)
    refine ⟨xs ++ [x], by simp [hl], fun j p hp => ?_⟩
    by_cases e : j < xs.length
    · rw [List.getElem?_append_left e] at hp; exact hx j p hp
    · rw [List.getElem?_append_right (by omega)] at hp
      obtain rfl : j = n := by
        rcases Nat.lt_or_ge (j - xs.length) 1 with h1 | h1
        · omega
        · rw [List.getElem?_eq_none (by simpa using h1)] at hp; cases hp
      rw [hl, Nat.sub_self] at hp
      simp at hp
      subst hp; exact hq

theorem opens_slice {P : Program} {t e : TypeId} {α : Type} (d : Kd α) (ht : P.underlying t = some (.slice e)) (hsz : P.cellsOf e = d.sz) (he : Opens P e d.K) : Opens P t (Kd.slice e d).K := by
  intro H enc w base spare held fuel cs x h
  rcases open_slice ht h with ⟨rfl, _⟩ | ⟨a, len, cap, m, n, D, Pl, rfl, hb, hl, hm, hmm, _, hx⟩
  · exact ⟨[], none, 0, rfl, Nat.le_refl _, rfl, by simp, fun hp => absurd hp (by simp)⟩
  · have hlm : len ≤ m := by rw [hmm]; split <;> omega
    obtain ⟨xs, hxl, hxs⟩ := list_of (Q := fun i (p : α) => ∃ c, c.length = d.sz ∧ d.K w p c ∧ ∀ q u, c[q]? = some u → w.cell? (a.add (i * d.sz + q)) = some u) len (fun i hi => by
      obtain ⟨cs', h1, h2⟩ := hx i (by omega)
      obtain ⟨p, hp⟩ := he h2
      obtain ⟨_, h4, h5⟩ := World.cells?_some h1
      rw [hsz] at h4 h5
      refine ⟨p, cs', h4, hp, fun q u hq => ?_⟩
      have hq' : q < d.sz := by
        rw [← h4]
        rcases Nat.lt_or_ge q cs'.length with h6 | h6
        · exact h6
        · rw [List.getElem?_eq_none h6] at hq; cases hq
      have := h5 q hq'
      rw [Go.Deep.add_add] at this
      rw [this]; exact hq)
    refine ⟨xs, some a, cap, by rw [hxl], by omega, rfl, by simp only [maxLen] at hm; omega, fun _ => ⟨a, rfl, hxs⟩⟩

theorem open_agg1 {H : Type} {enc : TypeId × Value → H} {P : Program} {w : World} {base : Nat} {spare : Nat → Bool} {held : Bool} {r : Reach} {b0 : Nat} {t : TypeId} {f0 : Field} {v : Value} {d : DataW H} {p : List MemPlace} (hs : P.underlying t = some (.struct #[f0])) (hone : oneCellFields P #[f0] = true) (hC : P.cellsOf t = 1)
    (hv : Value.okWide P w r b0 t v) (h : DataW.Trod enc P w base spare held t v d p) :
    ∃ (v0 : Value) (y0 : DataW H × List MemPlace) (n : Nat), v = .agg #[v0] ∧ d = .agg [y0.1] ∧ p = y0.2 ∧
      DataW.trod enc P w base spare held n f0.type [v0] = some y0 := by
  obtain ⟨cs, rfl, hsz⟩ := okWide_struct hs hv
  obtain ⟨c0, rfl⟩ : ∃ c0, cs = #[c0] := by
    have h1 : cs.size = 1 := hsz.trans hC
    match cs, h1 with
    | ⟨[c0]⟩, _ => exact ⟨c0, rfl⟩
  obtain ⟨fuel, hf⟩ := h
  obtain ⟨y0, n, hx, _, h0⟩ := trod_struct1 hs hf
  obtain ⟨o0, k0⟩ := hone_of hone 0 f0 rfl
  simp only [Prod.mk.injEq] at hx
  exact ⟨c0, y0, n, rfl, hx.1, hx.2, by simpa [Value.cells, o0, k0] using h0⟩

theorem list3 (cs : List Value) (h : cs.length = 3) : ∃ a b c, cs = [a, b, c] := by
  match cs, h with
  | [a, b, c], _ => exact ⟨a, b, c, rfl⟩
theorem opens_struct3 {P : Program} {t : TypeId} {f0 f1 f2 : Field} (hs : P.underlying t = some (.struct #[f0, f1, f2])) (hone : oneCellFields P #[f0, f1, f2] = true) (hC : P.cellsOf t = 3) {k0 k1 k2 : IntKind}
    (h0 : P.underlying f0.type = some (.int k0)) (h1 : P.underlying f1.type = some (.int k1)) (h2 : P.underlying f2.type = some (.int k2)) :
    Opens P t (fun _ (x : Int × Int × Int) cs => cs = [.int k0 x.1, .int k1 x.2.1, .int k2 x.2.2]) := by
  intro H enc w base spare held fuel cs x h
  obtain ⟨y0, y1, y2, n, _, hl, g0, g1, g2⟩ := Go.Deep.trod_struct3 hs h
  obtain ⟨c0, c1, c2, rfl⟩ := list3 cs (hl.trans hC)
  obtain ⟨o0, q0⟩ := hone_of hone 0 f0 rfl
  obtain ⟨o1, q1⟩ := hone_of hone 1 f1 rfl
  obtain ⟨o2, q2⟩ := hone_of hone 2 f2 rfl
  rw [o0, q0] at g0
  rw [o1, q1] at g1
  rw [o2, q2] at g2
  obtain ⟨a0, e0, _, _⟩ := DataW.trod_int h0 g0
  obtain ⟨a1, e1, _, _⟩ := DataW.trod_int h1 g1
  obtain ⟨a2, e2, _, _⟩ := DataW.trod_int h2 g2
  simp at e0 e1 e2
  subst e0 e1 e2
  exact ⟨(a0, a1, a2), rfl⟩
/-- Each row inside a row of rows is no longer than a Go slice can be. -/
theorem inner_len {α : Type} {d : Kd α} {e n : Nat} {w : World} {A : Option Addr} {xs : List (List α)} (h : (Kd.slice e d).C w A n xs) : ∀ l ∈ xs, l.length ≤ 9223372036854775807 := by
  intro l hl
  obtain ⟨j, hj, rfl⟩ := List.getElem_of_mem hl
  obtain ⟨h1, h2, h3⟩ := h
  obtain ⟨ad, _, h4⟩ := h3 (by omega)
  obtain ⟨cs, _, ⟨A', c', _, _, hC⟩, _⟩ := h4 j _ (List.getElem?_eq_getElem hj)
  exact hC.2.1
end Go.Proofs.YthklbgllgeigdaaDoor.Xrd
