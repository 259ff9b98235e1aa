/- Facts that stay as memory grows: a world made out of another one by new blocks and draws is found by instances. No conditions. -/
import Derived.Test.YtocknmijghfafaaDoorWMore
namespace Go.Proofs.YtocknmijghfafaaDoor.Xmv
open Go.RowKit Go.Proofs.YtocknmijghfafaaDoorW.PrintWords
set_option linter.unusedVariables false
/-- W1 is W with new blocks and draws. -/
class Later (W W1 : World) : Prop where
  out : Below W.heap.size W W1
instance instRefl (W : World) : Later W W := ⟨Below.refl _ _⟩
instance instAlloc (W V : World) (o : Obj) [h : Later W V] : Later W (V.alloc o) := ⟨below_alloc h.out o⟩
instance instDrewN (W V : World) (n : Nat) [h : Later W V] : Later W (V.drewN n) := ⟨pw_below_drewN h.out n⟩
instance instDrew (W V : World) [h : Later W V] : Later W V.drew := ⟨below_drew1 h.out⟩
theorem bm {W W1 : World} {g : Nat} {o : Obj} (h : W.heap[g]? = some o) [k : Later W W1] : W1.heap[g]? = some o := blk_below h k.out
theorem um {w W W1 : World} (h : Below w.heap.size w W) [k : Later W W1] : Below w.heap.size w W1 := below_step h k.out
theorem ub {w W1 : World} (k : Below w.heap.size w W1 := by repeat (first | (with_reducible first | exact Aside0.out (by assumption) | apply below_alloc | apply pw_below_drewN | apply below_drew1 | refine below_set ?_ (Aside0.out (by assumption))) | exact Aside0.out (by assumption))) : Below w.heap.size w W1 := k
theorem rm {α : Type} {d : Kd α} {e : Nat} {W W1 : World} {base : Nat} {ok : Nat → Prop} {v : Value} {xs : List α} (h : d.R e W base ok v xs) [k : Later W W1] : d.R e W1 base ok v xs := Kd.R_below h k.out
theorem sm {α : Type} {d : Kd α} {e : Nat} {W W1 : World} {base : Nat} {ok : Nat → Prop} {v : Value} {xs : List α} (h : d.S e W base ok v xs) [k : Later W W1] : d.S e W1 base ok v xs := Kd.S_below h k.out
/-- An equation of rows of arguments, by computation. -/
theorem ga {p : Prop} (h : p := by (try simp only [List.map_toArray, List.map_cons, List.map_nil]); first | done | rfl | (simp only [List.length_drop, List.length_take]; rfl)) : p := h
end Go.Proofs.YtocknmijghfafaaDoor.Xmv
