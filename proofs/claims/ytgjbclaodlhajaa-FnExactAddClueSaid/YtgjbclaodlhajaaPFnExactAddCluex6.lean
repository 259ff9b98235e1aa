-- MADE FOR THIS CLAIM by wip/xp/xprint.py (with the kit's print; some functions' contracts proved by hand)
import Derived.Test.YtgjbclaodlhajaaPFnExactAddCluex0
import Derived.Test.YtgjbclaodlhajaaPFnExactAddCluex1
import Derived.Test.YtgjbclaodlhajaaPFnExactAddCluex3
import Derived.Test.YtgjbclaodlhajaaPFnExactAddCluex4
import Derived.Test.YtgjbclaodlhajaaPFnExactAddCluex5
namespace Go.Proofs.Ytgjbclaodlhajaa.PFnExactAddClue
open Go.RowKit Go.Proofs.YtgjbclaodlhajaaW.PrintWords Go.Proofs.YtgjbclaodlhajaaW.PrintLast Go.Proofs.YtgjbclaodlhajaaW.PrintMore
attribute [local go_sem] max2_int min2_int max_two min_two max_three min_three max_four min_four   -- for this text's walks alone
set_option linter.unusedVariables false
set_option linter.unusedSimpArgs false

/-! ### laws_FnExactAddClue: function 8 -/
mutual
def laws_FnExactAddClue.j0 : Nat → Bool → Bool → Bool → List (S23) → Int → Int → Int → List (S25) → List (S25) → List (S25) → Option (Bool)
 | 0, _, _, _, _, _, _, _, _, _, _ => none
 | k + 1, x7, x10, x46, x195000, x196000, x196001, x196002, x208000, x212000, x220000 => if x46 = true then (none) else ((laws_toPuzzle.f k x195000).bind fun t221 => ((laws_eqPuzzle.f k x212000 t221).bind fun t224 => (if t224 = true then ((laws_markPuzzle.f k x212000 1).bind fun bt225 => (if bt225.1 < 0 then (laws_FnExactAddClue.j1 k x7 true x195000 x196000 x196001 x196002 x208000 x220000) else ((laws_eqPuzzle.f k x220000 x208000).bind fun t227 => (if t227 = true then (laws_FnExactAddClue.j1 k x7 (x10 != x7) x195000 x196000 x196001 x196002 x208000 x220000) else (laws_FnExactAddClue.j1 k x7 true x195000 x196000 x196001 x196002 x208000 x220000))))) else (none))))
def laws_FnExactAddClue.j1 : Nat → Bool → Bool → List (S23) → Int → Int → Int → List (S25) → List (S25) → Option (Bool)
 | 0, _, _, _, _, _, _, _, _ => none
 | k + 1, x7, x67, x195000, x196000, x196001, x196002, x208000, x220000 => if x67 = true then (none) else ((laws_markPuzzle.f k x220000 1).bind fun bt228 => ((laws_heldPuzzle.f k bt228.2 1).bind fun t230 => (if t230 < 0 then (none) else (if t230 = bt228.1 then ((laws_toPuzzle.f k x195000).bind fun t231 => ((laws_toClue.f x196000 x196001 x196002).bind fun bt234 => ((impl_AddClue.f k t231 bt234.1 bt234.2.1 bt234.2.2).bind fun bt237 => ((laws_eqPuzzle.f k bt237.1 x208000).bind fun t242 => (if t242 = true then (laws_FnExactAddClue.j2 k bt228.1 (bt237.2 != x7) bt228.2) else (laws_FnExactAddClue.j2 k bt228.1 true bt228.2)))))) else (none)))))
def laws_FnExactAddClue.j2 : Nat → Int → Bool → List (S25) → Option (Bool)
 | 0, _, _, _ => none
 | k + 1, x12, x95, x220000 => if x95 = true then (none) else ((laws_heldPuzzle.f k x220000 1).bind fun t243 => (if t243 < 0 then (none) else (if t243 = x12 then (some true) else (none))))
end
def laws_FnExactAddClue.f (k : Nat) (l0_0 : List (S23)) (a1_0 : Int) (a1_1 : Int) (a1_2 : Int) : Option (Bool) := (laws_szPuzzle.f l0_0 1048576).bind fun t196 => (if t196 < 0 then (some true) else ((laws_toPuzzle.f k l0_0).bind fun t197 => ((laws_toClue.f a1_0 a1_1 a1_2).bind fun bt200 => ((spec_AddClue.f k t197 bt200.1 bt200.2.1 bt200.2.2).bind fun bt203 => ((laws_toPuzzle.f k l0_0).bind fun t208 => ((laws_toClue.f a1_0 a1_1 a1_2).bind fun bt212 => ((impl_AddClue.f k t208 bt212.1 bt212.2.1 bt212.2.2).bind fun bt215 => ((laws_eqPuzzle.f k bt215.1 bt203.1).bind fun t220 => (if t220 = true then (laws_FnExactAddClue.j0 k bt203.2 bt215.2 (bt215.2 != bt203.2) l0_0 a1_0 a1_1 a1_2 bt203.1 t208 bt215.1) else (laws_FnExactAddClue.j0 k bt203.2 bt215.2 true l0_0 a1_0 a1_1 a1_2 bt203.1 t208 bt215.1))))))))))
theorem laws_FnExactAddClue.mono_l : ∀ k, (∀ y0 y1 y2 y3 y4 y5 y6 y7 y8 y9, LeO (laws_FnExactAddClue.j0 k y0 y1 y2 y3 y4 y5 y6 y7 y8 y9) (laws_FnExactAddClue.j0 (k + 1) y0 y1 y2 y3 y4 y5 y6 y7 y8 y9)) ∧ (∀ y0 y1 y2 y3 y4 y5 y6 y7, LeO (laws_FnExactAddClue.j1 k y0 y1 y2 y3 y4 y5 y6 y7) (laws_FnExactAddClue.j1 (k + 1) y0 y1 y2 y3 y4 y5 y6 y7)) ∧ (∀ y0 y1 y2, LeO (laws_FnExactAddClue.j2 k y0 y1 y2) (laws_FnExactAddClue.j2 (k + 1) y0 y1 y2))
 | 0 => ⟨fun _ _ _ _ _ _ _ _ _ _ r h => by simp [laws_FnExactAddClue.j0] at h, fun _ _ _ _ _ _ _ _ r h => by simp [laws_FnExactAddClue.j1] at h, fun _ _ _ r h => by simp [laws_FnExactAddClue.j2] at h⟩
 | k + 1 => by
  obtain ⟨ih0, ih1, ih2⟩ := laws_FnExactAddClue.mono_l k
  refine ⟨?_, ?_, ?_⟩
  · intro y0 y1 y2 y3 y4 y5 y6 y7 y8 y9
    unfold laws_FnExactAddClue.j0
    repeat' first
    | (with_reducible exact ih0 _ _ _ _ _ _ _ _ _ _)
    | (with_reducible exact ih1 _ _ _ _ _ _ _ _)
    | (with_reducible exact ih2 _ _ _)
    | (with_reducible exact impl_AddClue.mono _ _ _ _ _)
    | (with_reducible exact laws_eqPuzzle.mono _ _ _)
    | (with_reducible exact laws_heldPuzzle.mono _ _ _)
    | (with_reducible exact laws_markPuzzle.mono _ _ _)
    | (with_reducible exact laws_toPuzzle.mono _ _)
    | (with_reducible exact spec_AddClue.mono _ _ _ _ _)
    | (with_reducible exact LeO.refl _)
    | (with_reducible exact LeO.none _)
    | (with_reducible refine LeO.ite ?_ ?_)
    | (with_reducible refine LeO.bind ?_ (fun _ => ?_))
    | exact ih0 _ _ _ _ _ _ _ _ _ _
    | exact ih1 _ _ _ _ _ _ _ _
    | exact ih2 _ _ _
    | exact impl_AddClue.mono _ _ _ _ _
    | exact laws_eqPuzzle.mono _ _ _
    | exact laws_heldPuzzle.mono _ _ _
    | exact laws_markPuzzle.mono _ _ _
    | exact laws_toPuzzle.mono _ _
    | exact spec_AddClue.mono _ _ _ _ _
    | exact LeO.none _
    | refine LeO.ite ?_ ?_
    | refine LeO.bind ?_ (fun _ => ?_)
  · intro y0 y1 y2 y3 y4 y5 y6 y7
    unfold laws_FnExactAddClue.j1
    repeat' first
    | (with_reducible exact ih0 _ _ _ _ _ _ _ _ _ _)
    | (with_reducible exact ih1 _ _ _ _ _ _ _ _)
    | (with_reducible exact ih2 _ _ _)
    | (with_reducible exact impl_AddClue.mono _ _ _ _ _)
    | (with_reducible exact laws_eqPuzzle.mono _ _ _)
    | (with_reducible exact laws_heldPuzzle.mono _ _ _)
    | (with_reducible exact laws_markPuzzle.mono _ _ _)
    | (with_reducible exact laws_toPuzzle.mono _ _)
    | (with_reducible exact spec_AddClue.mono _ _ _ _ _)
    | (with_reducible exact LeO.refl _)
    | (with_reducible exact LeO.none _)
    | (with_reducible refine LeO.ite ?_ ?_)
    | (with_reducible refine LeO.bind ?_ (fun _ => ?_))
    | exact ih0 _ _ _ _ _ _ _ _ _ _
    | exact ih1 _ _ _ _ _ _ _ _
    | exact ih2 _ _ _
    | exact impl_AddClue.mono _ _ _ _ _
    | exact laws_eqPuzzle.mono _ _ _
    | exact laws_heldPuzzle.mono _ _ _
    | exact laws_markPuzzle.mono _ _ _
    | exact laws_toPuzzle.mono _ _
    | exact spec_AddClue.mono _ _ _ _ _
    | exact LeO.none _
    | refine LeO.ite ?_ ?_
    | refine LeO.bind ?_ (fun _ => ?_)
  · intro y0 y1 y2
    unfold laws_FnExactAddClue.j2
    repeat' first
    | (with_reducible exact ih0 _ _ _ _ _ _ _ _ _ _)
    | (with_reducible exact ih1 _ _ _ _ _ _ _ _)
    | (with_reducible exact ih2 _ _ _)
    | (with_reducible exact impl_AddClue.mono _ _ _ _ _)
    | (with_reducible exact laws_eqPuzzle.mono _ _ _)
    | (with_reducible exact laws_heldPuzzle.mono _ _ _)
    | (with_reducible exact laws_markPuzzle.mono _ _ _)
    | (with_reducible exact laws_toPuzzle.mono _ _)
    | (with_reducible exact spec_AddClue.mono _ _ _ _ _)
    | (with_reducible exact LeO.refl _)
    | (with_reducible exact LeO.none _)
    | (with_reducible refine LeO.ite ?_ ?_)
    | (with_reducible refine LeO.bind ?_ (fun _ => ?_))
    | exact ih0 _ _ _ _ _ _ _ _ _ _
    | exact ih1 _ _ _ _ _ _ _ _
    | exact ih2 _ _ _
    | exact impl_AddClue.mono _ _ _ _ _
    | exact laws_eqPuzzle.mono _ _ _
    | exact laws_heldPuzzle.mono _ _ _
    | exact laws_markPuzzle.mono _ _ _
    | exact laws_toPuzzle.mono _ _
    | exact spec_AddClue.mono _ _ _ _ _
    | exact LeO.none _
    | refine LeO.ite ?_ ?_
    | refine LeO.bind ?_ (fun _ => ?_)
theorem laws_FnExactAddClue.mono : ∀ a0 a1 a2 a3 k, LeO (laws_FnExactAddClue.f k a0 a1 a2 a3) (laws_FnExactAddClue.f (k + 1) a0 a1 a2 a3) := by
 intro a0 a1 a2 a3 k
 obtain ⟨ih0, ih1, ih2⟩ := laws_FnExactAddClue.mono_l k
 unfold laws_FnExactAddClue.f
 repeat' first
  | (with_reducible exact ih0 _ _ _ _ _ _ _ _ _ _)
  | (with_reducible exact ih1 _ _ _ _ _ _ _ _)
  | (with_reducible exact ih2 _ _ _)
  | (with_reducible exact impl_AddClue.mono _ _ _ _ _)
  | (with_reducible exact laws_eqPuzzle.mono _ _ _)
  | (with_reducible exact laws_heldPuzzle.mono _ _ _)
  | (with_reducible exact laws_markPuzzle.mono _ _ _)
  | (with_reducible exact laws_toPuzzle.mono _ _)
  | (with_reducible exact spec_AddClue.mono _ _ _ _ _)
  | (with_reducible exact LeO.refl _)
  | (with_reducible exact LeO.none _)
  | (with_reducible refine LeO.ite ?_ ?_)
  | (with_reducible refine LeO.bind ?_ (fun _ => ?_))
  | exact ih0 _ _ _ _ _ _ _ _ _ _
  | exact ih1 _ _ _ _ _ _ _ _
  | exact ih2 _ _ _
  | exact impl_AddClue.mono _ _ _ _ _
  | exact laws_eqPuzzle.mono _ _ _
  | exact laws_heldPuzzle.mono _ _ _
  | exact laws_markPuzzle.mono _ _ _
  | exact laws_toPuzzle.mono _ _
  | exact spec_AddClue.mono _ _ _ _ _
  | exact LeO.none _
  | refine LeO.ite ?_ ?_
  | refine LeO.bind ?_ (fun _ => ?_)
def laws_FnExactAddClue.T5 : Bool × List (List Nat × List Nat) := (true, [([], []), ([0], [0]), ([], []), ([2, 1], [2]), ([1, 3, 3], [1, 3]), ([4], [4]), ([5], [5]), ([5], [5]), ([], []), ([8, 6, 4, 0, 1, 2, 3, 4, 5, 6, 8], [6, 8]), ([7, 9, 0, 1, 2, 3, 4, 5, 6, 7, 8, 9], [7])])
def laws_FnExactAddClue.B5 : List Nat := [0, 1, 0, 7, 15, 31, 63, 63, 0, 383, 1023]
theorem laws_FnExactAddClue.tab5 : rtab .any (opsOf Try.f8 5) = laws_FnExactAddClue.T5 := by kernel_rfl
theorem laws_FnExactAddClue.bits5 : waitsOk laws_FnExactAddClue.T5.2 laws_FnExactAddClue.B5 = true := by kernel_rfl
def laws_FnExactAddClue.T7 : Bool × List (List Nat × List Nat) := (true, [([], []), ([], []), ([1], [1]), ([0, 2, 2], [0, 2]), ([3], [3]), ([4], [4]), ([4], [4]), ([], []), ([7, 5, 3, 0, 1, 2, 3, 4, 5, 7], [5, 7]), ([6, 8, 0, 1, 2, 3, 4, 5, 6, 7, 8], [6])])
def laws_FnExactAddClue.B7 : List Nat := [0, 0, 2, 7, 15, 31, 31, 0, 191, 511]
theorem laws_FnExactAddClue.tab7 : rtab .any (opsOf Try.f8 7) = laws_FnExactAddClue.T7 := by kernel_rfl
theorem laws_FnExactAddClue.bits7 : waitsOk laws_FnExactAddClue.T7.2 laws_FnExactAddClue.B7 = true := by kernel_rfl
def laws_FnExactAddClue.T24 : Bool × List (List Nat × List Nat) := (true, [([], []), ([0], [0]), ([], []), ([2, 1], [2]), ([1, 3, 3], [1, 3]), ([4], [4]), ([5], [5]), ([5], [5]), ([], []), ([8, 6, 4, 0, 1, 2, 3, 4, 5, 6, 8], [6, 8]), ([7, 9, 0, 1, 2, 3, 4, 5, 6, 7, 8, 9], [7])])
def laws_FnExactAddClue.B24 : List Nat := [0, 1, 0, 7, 15, 31, 63, 63, 0, 383, 1023]
theorem laws_FnExactAddClue.tab24 : rtab .any (opsOf Try.f8 24) = laws_FnExactAddClue.T24 := by kernel_rfl
theorem laws_FnExactAddClue.bits24 : waitsOk laws_FnExactAddClue.T24.2 laws_FnExactAddClue.B24 = true := by kernel_rfl
set_option maxHeartbeats 8000000 in
set_option maxRecDepth 100000 in
theorem laws_FnExactAddClue.calls (k : Nat) (A0_0 : Option Addr) (c0_0 : Nat) (l0_0 : List (S23)) (a1_0 : Int) (a1_1 : Int) (a1_2 : Int) (r : Bool) (w : World) (hr0_0 : Kd.C k23 w A0_0 l0_0.length l0_0) (hc0_0 : l0_0.length ≤ c0_0) (h : laws_FnExactAddClue.f k l0_0 a1_0 a1_1 a1_2 = some r) :
 Calls Try.prog 8 #[.agg #[.slice A0_0 l0_0.length c0_0], .agg #[.int .i64 a1_0, .int .i64 a1_1, .int .i64 a1_2]] w fun e w' => e = .returned (.bool r) ∧ Below w.heap.size w w' := by
 have hu40 := Try.underlying40
 have hu23 := Try.underlying23
 have hu45 := Try.underlying45
 have HR0_0 := Aside0.mk hr0_0
 have HC0_0 := Aside0.mk hc0_0
 clear hr0_0 hc0_0
 have HB := Aside0.mk (Below.refl w.heap.size w)
 have H : ((laws_szPuzzle.f l0_0 1048576).bind fun t196 => (if t196 < 0 then (some true) else ((laws_toPuzzle.f k l0_0).bind fun t197 => ((laws_toClue.f a1_0 a1_1 a1_2).bind fun bt200 => ((spec_AddClue.f k t197 bt200.1 bt200.2.1 bt200.2.2).bind fun bt203 => ((laws_toPuzzle.f k l0_0).bind fun t208 => ((laws_toClue.f a1_0 a1_1 a1_2).bind fun bt212 => ((impl_AddClue.f k t208 bt212.1 bt212.2.1 bt212.2.2).bind fun bt215 => ((laws_eqPuzzle.f k bt215.1 bt203.1).bind fun t220 => (if t220 = true then (laws_FnExactAddClue.j0 k bt203.2 bt215.2 (bt215.2 != bt203.2) l0_0 a1_0 a1_1 a1_2 bt203.1 t208 bt215.1) else (laws_FnExactAddClue.j0 k bt203.2 bt215.2 true l0_0 a1_0 a1_1 a1_2 bt203.1 t208 bt215.1))))))))))) = some r := h
 clear h
 replace H := Option.bind_eq_some_iff.mp H
 obtain ⟨t196, A30, H⟩ := H
 replace H : (if t196 < 0 then (some true) else ((laws_toPuzzle.f k l0_0).bind fun t197 => ((laws_toClue.f a1_0 a1_1 a1_2).bind fun bt200 => ((spec_AddClue.f k t197 bt200.1 bt200.2.1 bt200.2.2).bind fun bt203 => ((laws_toPuzzle.f k l0_0).bind fun t208 => ((laws_toClue.f a1_0 a1_1 a1_2).bind fun bt212 => ((impl_AddClue.f k t208 bt212.1 bt212.2.1 bt212.2.2).bind fun bt215 => ((laws_eqPuzzle.f k bt215.1 bt203.1).bind fun t220 => (if t220 = true then (laws_FnExactAddClue.j0 k bt203.2 bt215.2 (bt215.2 != bt203.2) l0_0 a1_0 a1_1 a1_2 bt203.1 t208 bt215.1) else (laws_FnExactAddClue.j0 k bt203.2 bt215.2 true l0_0 a1_0 a1_1 a1_2 bt203.1 t208 bt215.1)))))))))) = some r := H
 have A3 := Aside0.mk A30
 clear A30
 by_cases c4 : t196 < 0
 · rw [if_pos c4] at H
   have c4b0 : decide (t196 < 0) = true := decide_eq_true c4
   clear c4
   obtain rfl := Option.some.inj H
   go_enter Try.func8, Try.ntmps8
   go_wp2_with (first | ((with_reducible refine gate_dst (N := 2) rfl ?_); refine box_event ?hg (N := 2) ?hd (cs := #[.slice A0_0 l0_0.length c0_0]) (t := 40) ?hr ?_; (case hd => rfl); (case hg => rfl); (case hr => first | (go_simp; done) | (go_simp; rfl)); intro gb194 hg w5 hbox hb; have n0_ := Aside0.mk (below_step Xmv.ub hb); have n1_ := Aside0.mk (hbox); have n2_ := Aside0.mk ((by rw [hg]; exact (below_size Xmv.ub) : w.heap.size ≤ gb194)); have n3_ := Aside0.mk ((by rw [hg]; exact (below_size Xmv.ub) : w.heap.size ≤ gb194)); clear HB; have HB := n0_; have BK194 := n1_; have GW194 := n2_; have GE194 := n3_; clear n0_ n1_ n2_ n3_; clear hb hbox hg) | ((with_reducible refine gate_dst (N := 3) rfl ?_); refine box_event ?hg (N := 3) ?hd (cs := #[.int .i64 a1_0, .int .i64 a1_1, .int .i64 a1_2]) (t := 23) ?hr ?_; (case hd => rfl); (case hg => rfl); (case hr => first | (go_simp; done) | (go_simp; rfl)); intro gb195 hg w6 hbox hb; have n0_ := Aside0.mk (blk_below (g := gb194) (o := .cells #[.slice A0_0 l0_0.length c0_0] 40 (0, 0)) (Xmv.bm BK194.out) hb); have n1_ := Aside0.mk (below_step Xmv.ub hb); have n2_ := Aside0.mk (hbox); have n3_ := Aside0.mk ((by rw [hg]; exact (below_size Xmv.ub) : w.heap.size ≤ gb195)); have n4_ := Aside0.mk ((by rw [hg]; exact (below_size Xmv.ub) : w.heap.size ≤ gb195)); have n5_ := Aside0.mk ((by rw [hg]; exact Nat.ne_of_lt (blk_lt (g := gb194) (o := .cells #[.slice A0_0 l0_0.length c0_0] 40 (0, 0)) (Xmv.bm BK194.out)) : gb194 ≠ gb195)); have n6_ := Aside0.mk ((by rw [hg]; exact Nat.ne_of_gt (blk_lt (g := gb194) (o := .cells #[.slice A0_0 l0_0.length c0_0] 40 (0, 0)) (Xmv.bm BK194.out)) : gb195 ≠ gb194)); clear BK194; clear HB; have BK194 := n0_; have HB := n1_; have BK195 := n2_; have GW195 := n3_; have GE195 := n4_; have NB194_195 := n5_; have NB195_194 := n6_; clear n0_ n1_ n2_ n3_ n4_ n5_ n6_; clear hb hbox hg; have hnb7 := NB194_195.out; have hnc7 := NB195_194.out; have hcz8_0 : w6.cell? ⟨gb194, 0, none⟩ = some (.slice A0_0 l0_0.length c0_0) := (blk_cell BK194.out 0).trans rfl; have hfz8_0 := blk_frozen BK194.out 0) | ((with_reducible refine gate_callee (f := 27) rfl ?_); refine goesL_ (some 18) rfl rfl Try.func27 (by kernel_rfl) rfl #[.agg #[.slice A0_0 l0_0.length c0_0], .int .i64 1048576] rfl (by (try simp only [List.map_toArray, List.map_cons, List.map_nil]); first | done | rfl | (simp only [List.length_drop, List.length_take]; rfl)) ?_; (with_reducible refine (laws_szPuzzle.calls _ _ l0_0 1048576 t196 _ ?side1 ?side2 A3.out).mono ?_); (case side1 => repeat (first | exact (Kd.C_below HR0_0.out HB.out) | (with_reducible refine Kd.C_alloc ?_ _) | (with_reducible refine Kd.C_drewN ?_ _) | (with_reducible refine Kd.C_drew ?_))); (case side2 => exact HC0_0.out); rintro e w9 ⟨rfl, hb⟩; refine ⟨_, rfl, ?_⟩; have n0_ := Aside0.mk (blk_below (g := gb194) (o := .cells #[.slice A0_0 l0_0.length c0_0] 40 (0, 0)) (Xmv.bm BK194.out) hb); have n1_ := Aside0.mk (blk_below (g := gb195) (o := .cells #[.int .i64 a1_0, .int .i64 a1_1, .int .i64 a1_2] 23 (0, 0)) (Xmv.bm BK195.out) hb); have n2_ := Aside0.mk (below_step Xmv.ub hb); clear BK194; clear BK195; clear HB; have BK194 := n0_; have BK195 := n1_; have HB := n2_; clear n0_ n1_ n2_; (try clear hb); (try clear hb2); (try clear hk); (try clear hi)))
   go_ret
   exact ⟨by first | rfl | (simp [errW_none, errW_some] <;> rfl) | (simp [*, errW_none, errW_some] <;> rfl), by repeat (first | (with_reducible first | exact HB.out | apply below_alloc | apply pw_below_drewN | apply below_drew1 | refine below_set ?_ GE194.out | refine below_set ?_ GE195.out) | exact HB.out)⟩
 · rw [if_neg c4] at H
   have c4b0 : decide (t196 < 0) = false := decide_eq_false c4
   clear c4
   replace H := Option.bind_eq_some_iff.mp H
   obtain ⟨t197, A100, H⟩ := H
   replace H : ((laws_toClue.f a1_0 a1_1 a1_2).bind fun bt200 => ((spec_AddClue.f k t197 bt200.1 bt200.2.1 bt200.2.2).bind fun bt203 => ((laws_toPuzzle.f k l0_0).bind fun t208 => ((laws_toClue.f a1_0 a1_1 a1_2).bind fun bt212 => ((impl_AddClue.f k t208 bt212.1 bt212.2.1 bt212.2.2).bind fun bt215 => ((laws_eqPuzzle.f k bt215.1 bt203.1).bind fun t220 => (if t220 = true then (laws_FnExactAddClue.j0 k bt203.2 bt215.2 (bt215.2 != bt203.2) l0_0 a1_0 a1_1 a1_2 bt203.1 t208 bt215.1) else (laws_FnExactAddClue.j0 k bt203.2 bt215.2 true l0_0 a1_0 a1_1 a1_2 bt203.1 t208 bt215.1)))))))) = some r := H
   have A10 := Aside0.mk A100
   clear A100
   replace H := Option.bind_eq_some_iff.mp H
   obtain ⟨⟨t200, t201, t202⟩, A110, H⟩ := H
   replace H : ((spec_AddClue.f k t197 t200 t201 t202).bind fun bt203 => ((laws_toPuzzle.f k l0_0).bind fun t208 => ((laws_toClue.f a1_0 a1_1 a1_2).bind fun bt212 => ((impl_AddClue.f k t208 bt212.1 bt212.2.1 bt212.2.2).bind fun bt215 => ((laws_eqPuzzle.f k bt215.1 bt203.1).bind fun t220 => (if t220 = true then (laws_FnExactAddClue.j0 k bt203.2 bt215.2 (bt215.2 != bt203.2) l0_0 a1_0 a1_1 a1_2 bt203.1 t208 bt215.1) else (laws_FnExactAddClue.j0 k bt203.2 bt215.2 true l0_0 a1_0 a1_1 a1_2 bt203.1 t208 bt215.1))))))) = some r := H
   have A11 := Aside0.mk A110
   clear A110
   replace H := Option.bind_eq_some_iff.mp H
   obtain ⟨⟨t203, t206⟩, A120, H⟩ := H
   replace H : ((laws_toPuzzle.f k l0_0).bind fun t208 => ((laws_toClue.f a1_0 a1_1 a1_2).bind fun bt212 => ((impl_AddClue.f k t208 bt212.1 bt212.2.1 bt212.2.2).bind fun bt215 => ((laws_eqPuzzle.f k bt215.1 t203).bind fun t220 => (if t220 = true then (laws_FnExactAddClue.j0 k t206 bt215.2 (bt215.2 != t206) l0_0 a1_0 a1_1 a1_2 t203 t208 bt215.1) else (laws_FnExactAddClue.j0 k t206 bt215.2 true l0_0 a1_0 a1_1 a1_2 t203 t208 bt215.1)))))) = some r := H
   have A12 := Aside0.mk A120
   clear A120
   replace H := Option.bind_eq_some_iff.mp H
   obtain ⟨t208, A130, H⟩ := H
   replace H : ((laws_toClue.f a1_0 a1_1 a1_2).bind fun bt212 => ((impl_AddClue.f k t208 bt212.1 bt212.2.1 bt212.2.2).bind fun bt215 => ((laws_eqPuzzle.f k bt215.1 t203).bind fun t220 => (if t220 = true then (laws_FnExactAddClue.j0 k t206 bt215.2 (bt215.2 != t206) l0_0 a1_0 a1_1 a1_2 t203 t208 bt215.1) else (laws_FnExactAddClue.j0 k t206 bt215.2 true l0_0 a1_0 a1_1 a1_2 t203 t208 bt215.1))))) = some r := H
   have A13 := Aside0.mk A130
   clear A130
   replace H := Option.bind_eq_some_iff.mp H
   obtain ⟨⟨t212, t213, t214⟩, A140, H⟩ := H
   replace H : ((impl_AddClue.f k t208 t212 t213 t214).bind fun bt215 => ((laws_eqPuzzle.f k bt215.1 t203).bind fun t220 => (if t220 = true then (laws_FnExactAddClue.j0 k t206 bt215.2 (bt215.2 != t206) l0_0 a1_0 a1_1 a1_2 t203 t208 bt215.1) else (laws_FnExactAddClue.j0 k t206 bt215.2 true l0_0 a1_0 a1_1 a1_2 t203 t208 bt215.1)))) = some r := H
   have A14 := Aside0.mk A140
   clear A140
   replace H := Option.bind_eq_some_iff.mp H
   obtain ⟨⟨t215, t218⟩, A150, H⟩ := H
   replace H : ((laws_eqPuzzle.f k t215 t203).bind fun t220 => (if t220 = true then (laws_FnExactAddClue.j0 k t206 t218 (t218 != t206) l0_0 a1_0 a1_1 a1_2 t203 t208 t215) else (laws_FnExactAddClue.j0 k t206 t218 true l0_0 a1_0 a1_1 a1_2 t203 t208 t215))) = some r := H
   have A15 := Aside0.mk A150
   clear A150
   have HC16 := Aside0.mk H
   clear H
   go_enter Try.func8, Try.ntmps8
   try go_wp2_with (first | ((with_reducible refine gate_dst (N := 2) rfl ?_); refine box_event ?hg (N := 2) ?hd (cs := #[.slice A0_0 l0_0.length c0_0]) (t := 40) ?hr ?_; (case hd => rfl); (case hg => rfl); (case hr => first | (go_simp; done) | (go_simp; rfl)); intro gb194 hg w17 hbox hb; have n0_ := Aside0.mk (below_step Xmv.ub hb); have n1_ := Aside0.mk (hbox); have n2_ := Aside0.mk ((by rw [hg]; exact (below_size Xmv.ub) : w.heap.size ≤ gb194)); have n3_ := Aside0.mk ((by rw [hg]; exact (below_size Xmv.ub) : w.heap.size ≤ gb194)); clear HB; have HB := n0_; have BK194 := n1_; have GW194 := n2_; have GE194 := n3_; clear n0_ n1_ n2_ n3_; clear hb hbox hg) | ((with_reducible refine gate_dst (N := 3) rfl ?_); refine box_event ?hg (N := 3) ?hd (cs := #[.int .i64 a1_0, .int .i64 a1_1, .int .i64 a1_2]) (t := 23) ?hr ?_; (case hd => rfl); (case hg => rfl); (case hr => first | (go_simp; done) | (go_simp; rfl)); intro gb195 hg w18 hbox hb; have n0_ := Aside0.mk (blk_below (g := gb194) (o := .cells #[.slice A0_0 l0_0.length c0_0] 40 (0, 0)) (Xmv.bm BK194.out) hb); have n1_ := Aside0.mk (below_step Xmv.ub hb); have n2_ := Aside0.mk (hbox); have n3_ := Aside0.mk ((by rw [hg]; exact (below_size Xmv.ub) : w.heap.size ≤ gb195)); have n4_ := Aside0.mk ((by rw [hg]; exact (below_size Xmv.ub) : w.heap.size ≤ gb195)); have n5_ := Aside0.mk ((by rw [hg]; exact Nat.ne_of_lt (blk_lt (g := gb194) (o := .cells #[.slice A0_0 l0_0.length c0_0] 40 (0, 0)) (Xmv.bm BK194.out)) : gb194 ≠ gb195)); have n6_ := Aside0.mk ((by rw [hg]; exact Nat.ne_of_gt (blk_lt (g := gb194) (o := .cells #[.slice A0_0 l0_0.length c0_0] 40 (0, 0)) (Xmv.bm BK194.out)) : gb195 ≠ gb194)); clear BK194; clear HB; have BK194 := n0_; have HB := n1_; have BK195 := n2_; have GW195 := n3_; have GE195 := n4_; have NB194_195 := n5_; have NB195_194 := n6_; clear n0_ n1_ n2_ n3_ n4_ n5_ n6_; clear hb hbox hg; have hnb19 := NB194_195.out; have hnc19 := NB195_194.out; have hcz20_0 : w18.cell? ⟨gb194, 0, none⟩ = some (.slice A0_0 l0_0.length c0_0) := (blk_cell BK194.out 0).trans rfl; have hfz20_0 := blk_frozen BK194.out 0) | ((with_reducible refine gate_callee (f := 27) rfl ?_); refine goesL_ (some 18) rfl rfl Try.func27 (by kernel_rfl) rfl #[.agg #[.slice A0_0 l0_0.length c0_0], .int .i64 1048576] rfl (by (try simp only [List.map_toArray, List.map_cons, List.map_nil]); first | done | rfl | (simp only [List.length_drop, List.length_take]; rfl)) ?_; (with_reducible refine (laws_szPuzzle.calls _ _ l0_0 1048576 t196 _ ?side1 ?side2 A3.out).mono ?_); (case side1 => repeat (first | exact (Kd.C_below HR0_0.out HB.out) | (with_reducible refine Kd.C_alloc ?_ _) | (with_reducible refine Kd.C_drewN ?_ _) | (with_reducible refine Kd.C_drew ?_))); (case side2 => exact HC0_0.out); rintro e w21 ⟨rfl, hb⟩; refine ⟨_, rfl, ?_⟩; have n0_ := Aside0.mk (blk_below (g := gb194) (o := .cells #[.slice A0_0 l0_0.length c0_0] 40 (0, 0)) (Xmv.bm BK194.out) hb); have n1_ := Aside0.mk (blk_below (g := gb195) (o := .cells #[.int .i64 a1_0, .int .i64 a1_1, .int .i64 a1_2] 23 (0, 0)) (Xmv.bm BK195.out) hb); have n2_ := Aside0.mk (below_step Xmv.ub hb); clear BK194; clear BK195; clear HB; have BK194 := n0_; have BK195 := n1_; have HB := n2_; clear n0_ n1_ n2_; (try clear hb); (try clear hb2); (try clear hk); (try clear hi)))
   have n0_ := Aside0.mk (blk_drew BK194.out); have n1_ := Aside0.mk (blk_drew BK195.out); have n2_ := Aside0.mk (below_drew1 HB.out); clear BK194 BK195 HB; have BK194 := n0_; have BK195 := n1_; have HB := n2_; clear n0_ n1_ n2_
   refine start_ (n := 11) (S := fun w' => w'.cell? ⟨gb194, 0, none⟩ = some (.slice A0_0 l0_0.length c0_0) ∧ w'.cell? ⟨gb195, 0, none⟩ = some (.int .i64 a1_0) ∧ w'.cell? ⟨gb195, 1, none⟩ = some (.int .i64 a1_1) ∧ w'.cell? ⟨gb195, 2, none⟩ = some (.int .i64 a1_2)) (ds := []) #[false, false, false, false, false, false, false, false, false, false, false] (by kernel_rfl) rfl rfl ⟨(blk_cell BK194.out 0).trans rfl, (blk_cell BK195.out 0).trans rfl, (blk_cell BK195.out 1).trans rfl, (blk_cell BK195.out 2).trans rfl⟩ (fun hHeld => ?_); refine with_tabW laws_FnExactAddClue.tab5 laws_FnExactAddClue.bits5 (fun HT_ HW_ => ?_)
   generalize w21.drew = w22 at BK194 BK195 HB hHeld ⊢
   refine take_ (i := 0) (N := some 22) (v := ?_) (a' := ?_) #[true, false, false, false, false, false, false, false, false, false, false] rfl rfl (take_ofW HT_.out HW_.out (by kernel_rfl)) (fun _ _ _ h => h) (Or.inl ⟨by rfl, ?_⟩) hHeld ?_ ?_
   rotate_left
   · rintro w' ⟨s0, s1, s2, s3⟩
     go_simp
     with_reducible rfl
   rotate_left
   · simp only [Act.put, List.setIfInBounds_toArray, List.set_cons_zero, List.set_cons_succ, i64_w, i32_w]
     rfl
   refine take_ (i := 2) (N := some 24) (v := ?_) (a' := ?_) #[true, false, true, false, false, false, false, false, false, false, false] rfl rfl (take_ofW HT_.out HW_.out (by kernel_rfl)) (fun _ _ _ h => h) (Or.inl ⟨by rfl, ?_⟩) hHeld ?_ ?_
   rotate_left
   · rintro w' ⟨s0, s1, s2, s3⟩
     go_simp
     with_reducible rfl
   rotate_left
   · simp only [Act.put, List.setIfInBounds_toArray, List.set_cons_zero, List.set_cons_succ, i64_w, i32_w]
     rfl
   refine join_ (σ := Value × Value × Nat) 2 #[true, true, true, true, true, true, true, true, true, false, false] (fun s_ => [(23, .agg #[s_.1]), (25, .agg #[.int .i64 t200, .int .i64 t201, .int .i64 t202]), (26, .tuple #[.agg #[s_.2.1], .bool t206]), (6, .pointer (some ⟨s_.2.2, 0, none⟩)), (21, .tuple #[.agg #[s_.2.1], .bool t206]), (27, .agg #[s_.2.1]), (28, .bool t206)]) (fun s_ w' => (w'.cell? ⟨gb194, 0, none⟩ = some (.slice A0_0 l0_0.length c0_0) ∧ w'.cell? ⟨gb195, 0, none⟩ = some (.int .i64 a1_0) ∧ w'.cell? ⟨gb195, 1, none⟩ = some (.int .i64 a1_1) ∧ w'.cell? ⟨gb195, 2, none⟩ = some (.int .i64 a1_2)) ∧ (Kd.R k25 25 w' w.heap.size (fun k_ => some k_ ≠ (s_.2.1 : Value).ownBlock) s_.1 t197) ∧ (Kd.R k25 25 w' w.heap.size (fun k_ => some k_ ≠ (s_.1 : Value).ownBlock) s_.2.1 t203) ∧ (w'.heap[gb194]? = some (.cells #[.slice A0_0 l0_0.length c0_0] 40 (0, 0))) ∧ (w'.heap[gb195]? = some (.cells #[.int .i64 a1_0, .int .i64 a1_1, .int .i64 a1_2] 23 (0, 0))) ∧ (w'.heap[s_.2.2]? = some (.cells #[.slice none 0 0] 45 (0, 0))) ∧ (w.heap.size ≤ s_.2.2) ∧ (w.heap.size ≤ s_.2.2) ∧ (gb194 ≠ s_.2.2) ∧ (s_.2.2 ≠ gb194) ∧ (gb195 ≠ s_.2.2) ∧ (s_.2.2 ≠ gb195) ∧ (Below w.heap.size w w')) ?_ ?_
   rotate_left
   · intro hCont
     refine two_ (i := 1) (j := 8) (Ni := some 23) (Nj := some 6) #[true, true, true, false, false, false, false, false, false, false, false] #[true, false, true, false, false, false, false, false, true, false, false] rfl rfl rfl rfl (two_of HT_.out (by kernel_rfl)) (by decide) (by decide) (fun K hK => ?_) (fun K hK => ?_)
     · skip
       refine goes_ Try.func29 (by kernel_rfl) rfl #[.agg #[.slice A0_0 l0_0.length c0_0]] (by rfl) rfl rfl (by (try simp only [List.map_toArray, List.map_cons, List.map_nil]); first | done | rfl | (simp only [List.length_drop, List.length_take]; rfl)) ?_
       with_reducible refine (laws_toPuzzle.calls k _ _ l0_0 t197 _ ?side1 ?side2 A10.out).mono ?_
       (case side1 => repeat (first | exact (Kd.C_below HR0_0.out HB.out) | (with_reducible refine Kd.C_alloc ?_ _) | (with_reducible refine Kd.C_drewN ?_ _) | (with_reducible refine Kd.C_drew ?_)))
       (case side2 => exact HC0_0.out)
       rintro e w23 ⟨v198, rfl, ho0, hb⟩
       refine ⟨_, rfl, ?_⟩
       have n0_ := Aside0.mk (Kd.R_lower ho0 (below_size Xmv.ub)); have n1_ := Aside0.mk (blk_below (g := gb194) (o := .cells #[.slice A0_0 l0_0.length c0_0] 40 (0, 0)) (Xmv.bm BK194.out) hb); have n2_ := Aside0.mk (blk_below (g := gb195) (o := .cells #[.int .i64 a1_0, .int .i64 a1_1, .int .i64 a1_2] 23 (0, 0)) (Xmv.bm BK195.out) hb); have n3_ := Aside0.mk (below_step Xmv.ub hb); clear BK194 BK195 HB; have HO199 := n0_; have BK194 := n1_; have BK195 := n2_; have HB := n3_; clear n0_ n1_ n2_ n3_; (try clear hb); (try clear hb2); (try clear hk); (try clear hi); (try clear ho0)
       refine hK.out _ _ ⟨(blk_cell BK194.out 0).trans rfl, (blk_cell BK195.out 0).trans rfl, (blk_cell BK195.out 1).trans rfl, (blk_cell BK195.out 2).trans rfl⟩ (fun hHeld => ?_)
       clear hK K
       refine norm_ (a' := ?_) ?_ ?_
       rotate_left
       · show Act.put _ (some 23) _ = _
         simp only [Act.put, List.setIfInBounds_toArray, List.set_cons_zero, List.set_cons_succ, i64_w, i32_w]
         rfl
       refine two_ (i := 3) (j := 8) (Ni := some 25) (Nj := some 6) #[true, true, true, true, false, false, false, false, false, false, false] #[true, true, true, false, false, false, false, false, true, false, false] rfl rfl rfl rfl (two_of HT_.out (by kernel_rfl)) (by decide) (by decide) (fun K hK => ?_) (fun K hK => ?_)
       · skip
         refine goes_ Try.func16 (by kernel_rfl) rfl #[.agg #[.int .i64 a1_0, .int .i64 a1_1, .int .i64 a1_2]] (by rfl) rfl rfl (by (try simp only [List.map_toArray, List.map_cons, List.map_nil]); first | done | rfl | (simp only [List.length_drop, List.length_take]; rfl)) ?_
         with_reducible refine (laws_toClue.calls a1_0 a1_1 a1_2 t200 t201 t202 _ A11.out).mono ?_
         rintro e w24 ⟨rfl, hb⟩
         refine ⟨_, rfl, ?_⟩
         have n0_ := Aside0.mk (Kd.R_below (Xmv.rm HO199.out) hb); have n1_ := Aside0.mk (blk_below (g := gb194) (o := .cells #[.slice A0_0 l0_0.length c0_0] 40 (0, 0)) (Xmv.bm BK194.out) hb); have n2_ := Aside0.mk (blk_below (g := gb195) (o := .cells #[.int .i64 a1_0, .int .i64 a1_1, .int .i64 a1_2] 23 (0, 0)) (Xmv.bm BK195.out) hb); have n3_ := Aside0.mk (below_step Xmv.ub hb); clear HO199 BK194 BK195 HB; have HO199 := n0_; have BK194 := n1_; have BK195 := n2_; have HB := n3_; clear n0_ n1_ n2_ n3_; (try clear hb); (try clear hb2); (try clear hk); (try clear hi)
         obtain ⟨Ao25, co25, eo25⟩ := Kd.R_slice HO199.out
         (first | subst eo25 | (injection eo25 with f1_ f2_ f3_; have f4_ := f1_.symm; have f5_ := f3_.symm; clear f1_ f2_ f3_; subst f4_; subst f5_))
         refine hK.out _ _ ⟨(blk_cell BK194.out 0).trans rfl, (blk_cell BK195.out 0).trans rfl, (blk_cell BK195.out 1).trans rfl, (blk_cell BK195.out 2).trans rfl⟩ (fun hHeld => ?_)
         clear hK K
         refine norm_ (a' := ?_) ?_ ?_
         rotate_left
         · show Act.put _ (some 25) _ = _
           simp only [Act.put, List.setIfInBounds_toArray, List.set_cons_zero, List.set_cons_succ, i64_w, i32_w]
           rfl
         refine two_ (i := 4) (j := 8) (Ni := some 26) (Nj := some 6) #[true, true, true, true, true, false, false, false, false, false, false] #[true, true, true, true, false, false, false, false, true, false, false] rfl rfl rfl rfl (two_of HT_.out (by kernel_rfl)) (by decide) (by decide) (fun K hK => ?_) (fun K hK => ?_)
         · skip
           refine goes_ Try.func36 (by kernel_rfl) rfl #[.agg #[.slice Ao25 t197.length co25], .agg #[.int .i64 t200, .int .i64 t201, .int .i64 t202]] (by rfl) rfl rfl (by (try simp only [List.map_toArray, List.map_cons, List.map_nil]); first | done | rfl | (simp only [List.length_drop, List.length_take]; rfl)) ?_
           with_reducible refine (spec_AddClue.calls k _ _ t197 t200 t201 t202 t203 t206 _ ?side1 ?side2 A12.out).mono ?_
           (case side1 => repeat (first | exact (Kd.R_reads' HO199.out).2.2 | (with_reducible refine Kd.C_alloc ?_ _) | (with_reducible refine Kd.C_drewN ?_ _) | (with_reducible refine Kd.C_drew ?_)))
           (case side2 => exact (Kd.R_reads' HO199.out).2.1)
           rintro e w26 ⟨v204, rfl, ho0, hb⟩
           refine ⟨_, rfl, ?_⟩
           have n0_ := Aside0.mk (Kd.R_elder' (Xmv.rm HO199.out) (Kd.R_base ho0) hb); have n1_ := Aside0.mk (Kd.R_lower (Kd.R_new' ho0 (Kd.R_lt (Xmv.rm HO199.out))) (below_size Xmv.ub)); have n2_ := Aside0.mk (blk_below (g := gb194) (o := .cells #[.slice A0_0 l0_0.length c0_0] 40 (0, 0)) (Xmv.bm BK194.out) hb); have n3_ := Aside0.mk (blk_below (g := gb195) (o := .cells #[.int .i64 a1_0, .int .i64 a1_1, .int .i64 a1_2] 23 (0, 0)) (Xmv.bm BK195.out) hb); have n4_ := Aside0.mk (below_step Xmv.ub hb); clear HO199 BK194 BK195 HB; have HO199 := n0_; have HO205 := n1_; have BK194 := n2_; have BK195 := n3_; have HB := n4_; clear n0_ n1_ n2_ n3_ n4_; (try clear hb); (try clear hb2); (try clear hk); (try clear hi); (try clear ho0)
           refine hK.out _ _ ⟨(blk_cell BK194.out 0).trans rfl, (blk_cell BK195.out 0).trans rfl, (blk_cell BK195.out 1).trans rfl, (blk_cell BK195.out 2).trans rfl⟩ (fun hHeld => ?_)
           clear hK K
           refine norm_ (a' := ?_) ?_ ?_
           rotate_left
           · show Act.put _ (some 26) _ = _
             simp only [Act.put, List.setIfInBounds_toArray, List.set_cons_zero, List.set_cons_succ, i64_w, i32_w]
             rfl
           refine pure_ (i := 5) (N := some 21) (v := ?_) (a' := ?_) #[true, true, true, true, true, true, false, false, false, false, false] rfl rfl (any_of HT_.out (by kernel_rfl)) (fun _ _ _ h => h) (Or.inl ⟨by rfl, ?_⟩) ?_ ?_
           rotate_left
           · intro w'
             go_simp
             with_reducible rfl
           rotate_left
           · simp only [Act.put, List.setIfInBounds_toArray, List.set_cons_zero, List.set_cons_succ, i64_w, i32_w]
             rfl
           refine pure_ (i := 6) (N := some 27) (v := ?_) (a' := ?_) #[true, true, true, true, true, true, true, false, false, false, false] rfl rfl (any_of HT_.out (by kernel_rfl)) (fun _ _ _ h => h) (Or.inl ⟨by rfl, ?_⟩) ?_ ?_
           rotate_left
           · intro w'
             go_simp
             with_reducible rfl
           rotate_left
           · simp only [Act.put, List.setIfInBounds_toArray, List.set_cons_zero, List.set_cons_succ, i64_w, i32_w]
             rfl
           refine pure_ (i := 7) (N := some 28) (v := ?_) (a' := ?_) #[true, true, true, true, true, true, true, true, false, false, false] rfl rfl (any_of HT_.out (by kernel_rfl)) (fun _ _ _ h => h) (Or.inl ⟨by rfl, ?_⟩) ?_ ?_
           rotate_left
           · intro w'
             go_simp
             with_reducible rfl
           rotate_left
           · simp only [Act.put, List.setIfInBounds_toArray, List.set_cons_zero, List.set_cons_succ, i64_w, i32_w]
             rfl
           refine one_ (i := 8) (N := some 6) #[true, true, true, true, true, true, true, true, true, false, false] rfl rfl (one_of HT_.out (by kernel_rfl)) (by decide) (fun K hK => ?_)
           refine box_step ?hg (N := 6) ?hd (cs := #[.slice none 0 0]) (t := 45) ?hr ?_; (case hd => rfl); (case hg => rfl); (case hr => first | (go_simp; done) | (go_simp; rfl))
           intro gb207 hg w27 hbox hb
           have n0_ := Aside0.mk (Kd.R_below (Xmv.rm HO199.out) hb); have n1_ := Aside0.mk (Kd.R_below (Xmv.rm HO205.out) hb); have n2_ := Aside0.mk (blk_below (g := gb194) (o := .cells #[.slice A0_0 l0_0.length c0_0] 40 (0, 0)) (Xmv.bm BK194.out) hb); have n3_ := Aside0.mk (blk_below (g := gb195) (o := .cells #[.int .i64 a1_0, .int .i64 a1_1, .int .i64 a1_2] 23 (0, 0)) (Xmv.bm BK195.out) hb); have n4_ := Aside0.mk (below_step Xmv.ub hb); have n5_ := Aside0.mk (hbox); have n6_ := Aside0.mk ((by rw [hg]; exact (below_size Xmv.ub) : w.heap.size ≤ gb207)); have n7_ := Aside0.mk ((by rw [hg]; exact (below_size Xmv.ub) : w.heap.size ≤ gb207)); have n8_ := Aside0.mk ((by rw [hg]; exact Nat.ne_of_lt (blk_lt (g := gb194) (o := .cells #[.slice A0_0 l0_0.length c0_0] 40 (0, 0)) (Xmv.bm BK194.out)) : gb194 ≠ gb207)); have n9_ := Aside0.mk ((by rw [hg]; exact Nat.ne_of_gt (blk_lt (g := gb194) (o := .cells #[.slice A0_0 l0_0.length c0_0] 40 (0, 0)) (Xmv.bm BK194.out)) : gb207 ≠ gb194)); have n10_ := Aside0.mk ((by rw [hg]; exact Nat.ne_of_lt (blk_lt (g := gb195) (o := .cells #[.int .i64 a1_0, .int .i64 a1_1, .int .i64 a1_2] 23 (0, 0)) (Xmv.bm BK195.out)) : gb195 ≠ gb207)); have n11_ := Aside0.mk ((by rw [hg]; exact Nat.ne_of_gt (blk_lt (g := gb195) (o := .cells #[.int .i64 a1_0, .int .i64 a1_1, .int .i64 a1_2] 23 (0, 0)) (Xmv.bm BK195.out)) : gb207 ≠ gb195)); clear HO199 HO205 BK194 BK195 HB; have HO199 := n0_; have HO205 := n1_; have BK194 := n2_; have BK195 := n3_; have HB := n4_; have BK207 := n5_; have GW207 := n6_; have GE207 := n7_; have NB194_207 := n8_; have NB207_194 := n9_; have NB195_207 := n10_; have NB207_195 := n11_; clear n0_ n1_ n2_ n3_ n4_ n5_ n6_ n7_ n8_ n9_ n10_ n11_ hb hbox hg
           refine hK.out _ _ ⟨(blk_cell BK194.out 0).trans rfl, (blk_cell BK195.out 0).trans rfl, (blk_cell BK195.out 1).trans rfl, (blk_cell BK195.out 2).trans rfl⟩ (fun hHeld => ?_)
           clear hK K
           refine norm_ (a' := ?_) ?_ ?_
           rotate_left
           · show Act.put _ (some 6) _ = _
             simp only [Act.put, List.setIfInBounds_toArray, List.set_cons_zero, List.set_cons_succ, i64_w, i32_w]
             rfl
           exact norm_ (by simp only [putAll, Act.put, List.setIfInBounds_toArray, List.set_cons_zero, List.set_cons_succ]) (hCont (.slice Ao25 t197.length co25, v204, gb207) _ ⟨hHeld, (by (with_reducible repeat (first | apply Kd.R_alloc | apply Kd.R_drewN | apply Kd.R_drew)); exact Kd.R_mono HO199.out (fun _ hk => hk.2)), (by (with_reducible repeat (first | apply Kd.R_alloc | apply Kd.R_drewN | apply Kd.R_drew)); exact Kd.R_mono HO205.out (fun _ hk => hk.2)), (Xmv.bm BK194.out), (Xmv.bm BK195.out), (Xmv.bm BK207.out), GW207.out, GE207.out, NB194_207.out, NB207_194.out, NB195_207.out, NB207_195.out, Xmv.ub⟩)
         · skip
           refine box_step ?hg (N := 6) ?hd (cs := #[.slice none 0 0]) (t := 45) ?hr ?_; (case hd => rfl); (case hg => rfl); (case hr => first | (go_simp; done) | (go_simp; rfl))
           intro gb207 hg w25 hbox hb
           have n0_ := Aside0.mk (Kd.R_below (Xmv.rm HO199.out) hb); have n1_ := Aside0.mk (blk_below (g := gb194) (o := .cells #[.slice A0_0 l0_0.length c0_0] 40 (0, 0)) (Xmv.bm BK194.out) hb); have n2_ := Aside0.mk (blk_below (g := gb195) (o := .cells #[.int .i64 a1_0, .int .i64 a1_1, .int .i64 a1_2] 23 (0, 0)) (Xmv.bm BK195.out) hb); have n3_ := Aside0.mk (below_step Xmv.ub hb); have n4_ := Aside0.mk (hbox); have n5_ := Aside0.mk ((by rw [hg]; exact (below_size Xmv.ub) : w.heap.size ≤ gb207)); have n6_ := Aside0.mk ((by rw [hg]; exact (below_size Xmv.ub) : w.heap.size ≤ gb207)); have n7_ := Aside0.mk ((by rw [hg]; exact Nat.ne_of_lt (blk_lt (g := gb194) (o := .cells #[.slice A0_0 l0_0.length c0_0] 40 (0, 0)) (Xmv.bm BK194.out)) : gb194 ≠ gb207)); have n8_ := Aside0.mk ((by rw [hg]; exact Nat.ne_of_gt (blk_lt (g := gb194) (o := .cells #[.slice A0_0 l0_0.length c0_0] 40 (0, 0)) (Xmv.bm BK194.out)) : gb207 ≠ gb194)); have n9_ := Aside0.mk ((by rw [hg]; exact Nat.ne_of_lt (blk_lt (g := gb195) (o := .cells #[.int .i64 a1_0, .int .i64 a1_1, .int .i64 a1_2] 23 (0, 0)) (Xmv.bm BK195.out)) : gb195 ≠ gb207)); have n10_ := Aside0.mk ((by rw [hg]; exact Nat.ne_of_gt (blk_lt (g := gb195) (o := .cells #[.int .i64 a1_0, .int .i64 a1_1, .int .i64 a1_2] 23 (0, 0)) (Xmv.bm BK195.out)) : gb207 ≠ gb195)); clear HO199 BK194 BK195 HB; have HO199 := n0_; have BK194 := n1_; have BK195 := n2_; have HB := n3_; have BK207 := n4_; have GW207 := n5_; have GE207 := n6_; have NB194_207 := n7_; have NB207_194 := n8_; have NB195_207 := n9_; have NB207_195 := n10_; clear n0_ n1_ n2_ n3_ n4_ n5_ n6_ n7_ n8_ n9_ n10_ hb hbox hg
           obtain ⟨Ao26, co26, eo26⟩ := Kd.R_slice HO199.out
           (first | subst eo26 | (injection eo26 with f1_ f2_ f3_; have f4_ := f1_.symm; have f5_ := f3_.symm; clear f1_ f2_ f3_; subst f4_; subst f5_))
           refine hK.out _ _ ⟨(blk_cell BK194.out 0).trans rfl, (blk_cell BK195.out 0).trans rfl, (blk_cell BK195.out 1).trans rfl, (blk_cell BK195.out 2).trans rfl⟩ (fun hHeld => ?_)
           clear hK K
           refine norm_ (a' := ?_) ?_ ?_
           rotate_left
           · show Act.put _ (some 6) _ = _
             simp only [Act.put, List.setIfInBounds_toArray, List.set_cons_zero, List.set_cons_succ, i64_w, i32_w]
             rfl
           refine one_ (i := 4) (N := some 26) #[true, true, true, true, true, false, false, false, true, false, false] rfl rfl (one_of HT_.out (by kernel_rfl)) (by decide) (fun K hK => ?_)
           refine goes_ Try.func36 (by kernel_rfl) rfl #[.agg #[.slice Ao26 t197.length co26], .agg #[.int .i64 t200, .int .i64 t201, .int .i64 t202]] (by rfl) rfl rfl (by (try simp only [List.map_toArray, List.map_cons, List.map_nil]); first | done | rfl | (simp only [List.length_drop, List.length_take]; rfl)) ?_
           with_reducible refine (spec_AddClue.calls k _ _ t197 t200 t201 t202 t203 t206 _ ?side1 ?side2 A12.out).mono ?_
           (case side1 => repeat (first | exact (Kd.R_reads' HO199.out).2.2 | (with_reducible refine Kd.C_alloc ?_ _) | (with_reducible refine Kd.C_drewN ?_ _) | (with_reducible refine Kd.C_drew ?_)))
           (case side2 => exact (Kd.R_reads' HO199.out).2.1)
           rintro e w27 ⟨v204, rfl, ho0, hb⟩
           refine ⟨_, rfl, ?_⟩
           have n0_ := Aside0.mk (Kd.R_elder' (Xmv.rm HO199.out) (Kd.R_base ho0) hb); have n1_ := Aside0.mk (Kd.R_lower (Kd.R_new' ho0 (Kd.R_lt (Xmv.rm HO199.out))) (below_size Xmv.ub)); have n2_ := Aside0.mk (blk_below (g := gb194) (o := .cells #[.slice A0_0 l0_0.length c0_0] 40 (0, 0)) (Xmv.bm BK194.out) hb); have n3_ := Aside0.mk (blk_below (g := gb195) (o := .cells #[.int .i64 a1_0, .int .i64 a1_1, .int .i64 a1_2] 23 (0, 0)) (Xmv.bm BK195.out) hb); have n4_ := Aside0.mk (blk_below (g := gb207) (o := .cells #[.slice none 0 0] 45 (0, 0)) (Xmv.bm BK207.out) hb); have n5_ := Aside0.mk (below_step Xmv.ub hb); clear HO199 BK194 BK195 BK207 HB; have HO199 := n0_; have HO205 := n1_; have BK194 := n2_; have BK195 := n3_; have BK207 := n4_; have HB := n5_; clear n0_ n1_ n2_ n3_ n4_ n5_; (try clear hb); (try clear hb2); (try clear hk); (try clear hi); (try clear ho0)
           refine hK.out _ _ ⟨(blk_cell BK194.out 0).trans rfl, (blk_cell BK195.out 0).trans rfl, (blk_cell BK195.out 1).trans rfl, (blk_cell BK195.out 2).trans rfl⟩ (fun hHeld => ?_)
           clear hK K
           refine norm_ (a' := ?_) ?_ ?_
           rotate_left
           · show Act.put _ (some 26) _ = _
             simp only [Act.put, List.setIfInBounds_toArray, List.set_cons_zero, List.set_cons_succ, i64_w, i32_w]
             rfl
           refine pure_ (i := 5) (N := some 21) (v := ?_) (a' := ?_) #[true, true, true, true, true, true, false, false, true, false, false] rfl rfl (any_of HT_.out (by kernel_rfl)) (fun _ _ _ h => h) (Or.inl ⟨by rfl, ?_⟩) ?_ ?_
           rotate_left
           · intro w'
             go_simp
             with_reducible rfl
           rotate_left
           · simp only [Act.put, List.setIfInBounds_toArray, List.set_cons_zero, List.set_cons_succ, i64_w, i32_w]
             rfl
           refine pure_ (i := 6) (N := some 27) (v := ?_) (a' := ?_) #[true, true, true, true, true, true, true, false, true, false, false] rfl rfl (any_of HT_.out (by kernel_rfl)) (fun _ _ _ h => h) (Or.inl ⟨by rfl, ?_⟩) ?_ ?_
           rotate_left
           · intro w'
             go_simp
             with_reducible rfl
           rotate_left
           · simp only [Act.put, List.setIfInBounds_toArray, List.set_cons_zero, List.set_cons_succ, i64_w, i32_w]
             rfl
           refine pure_ (i := 7) (N := some 28) (v := ?_) (a' := ?_) #[true, true, true, true, true, true, true, true, true, false, false] rfl rfl (any_of HT_.out (by kernel_rfl)) (fun _ _ _ h => h) (Or.inl ⟨by rfl, ?_⟩) ?_ ?_
           rotate_left
           · intro w'
             go_simp
             with_reducible rfl
           rotate_left
           · simp only [Act.put, List.setIfInBounds_toArray, List.set_cons_zero, List.set_cons_succ, i64_w, i32_w]
             rfl
           exact norm_ (by simp only [putAll, Act.put, List.setIfInBounds_toArray, List.set_cons_zero, List.set_cons_succ]) (hCont (.slice Ao26 t197.length co26, v204, gb207) _ ⟨hHeld, (by (with_reducible repeat (first | apply Kd.R_alloc | apply Kd.R_drewN | apply Kd.R_drew)); exact Kd.R_mono HO199.out (fun _ hk => hk.2)), (by (with_reducible repeat (first | apply Kd.R_alloc | apply Kd.R_drewN | apply Kd.R_drew)); exact Kd.R_mono HO205.out (fun _ hk => hk.2)), (Xmv.bm BK194.out), (Xmv.bm BK195.out), (Xmv.bm BK207.out), GW207.out, GE207.out, NB194_207.out, NB207_194.out, NB195_207.out, NB207_195.out, Xmv.ub⟩)
       · skip
         refine box_step ?hg (N := 6) ?hd (cs := #[.slice none 0 0]) (t := 45) ?hr ?_; (case hd => rfl); (case hg => rfl); (case hr => first | (go_simp; done) | (go_simp; rfl))
         intro gb207 hg w24 hbox hb
         have n0_ := Aside0.mk (Kd.R_below (Xmv.rm HO199.out) hb); have n1_ := Aside0.mk (blk_below (g := gb194) (o := .cells #[.slice A0_0 l0_0.length c0_0] 40 (0, 0)) (Xmv.bm BK194.out) hb); have n2_ := Aside0.mk (blk_below (g := gb195) (o := .cells #[.int .i64 a1_0, .int .i64 a1_1, .int .i64 a1_2] 23 (0, 0)) (Xmv.bm BK195.out) hb); have n3_ := Aside0.mk (below_step Xmv.ub hb); have n4_ := Aside0.mk (hbox); have n5_ := Aside0.mk ((by rw [hg]; exact (below_size Xmv.ub) : w.heap.size ≤ gb207)); have n6_ := Aside0.mk ((by rw [hg]; exact (below_size Xmv.ub) : w.heap.size ≤ gb207)); have n7_ := Aside0.mk ((by rw [hg]; exact Nat.ne_of_lt (blk_lt (g := gb194) (o := .cells #[.slice A0_0 l0_0.length c0_0] 40 (0, 0)) (Xmv.bm BK194.out)) : gb194 ≠ gb207)); have n8_ := Aside0.mk ((by rw [hg]; exact Nat.ne_of_gt (blk_lt (g := gb194) (o := .cells #[.slice A0_0 l0_0.length c0_0] 40 (0, 0)) (Xmv.bm BK194.out)) : gb207 ≠ gb194)); have n9_ := Aside0.mk ((by rw [hg]; exact Nat.ne_of_lt (blk_lt (g := gb195) (o := .cells #[.int .i64 a1_0, .int .i64 a1_1, .int .i64 a1_2] 23 (0, 0)) (Xmv.bm BK195.out)) : gb195 ≠ gb207)); have n10_ := Aside0.mk ((by rw [hg]; exact Nat.ne_of_gt (blk_lt (g := gb195) (o := .cells #[.int .i64 a1_0, .int .i64 a1_1, .int .i64 a1_2] 23 (0, 0)) (Xmv.bm BK195.out)) : gb207 ≠ gb195)); clear HO199 BK194 BK195 HB; have HO199 := n0_; have BK194 := n1_; have BK195 := n2_; have HB := n3_; have BK207 := n4_; have GW207 := n5_; have GE207 := n6_; have NB194_207 := n7_; have NB207_194 := n8_; have NB195_207 := n9_; have NB207_195 := n10_; clear n0_ n1_ n2_ n3_ n4_ n5_ n6_ n7_ n8_ n9_ n10_ hb hbox hg
         refine hK.out _ _ ⟨(blk_cell BK194.out 0).trans rfl, (blk_cell BK195.out 0).trans rfl, (blk_cell BK195.out 1).trans rfl, (blk_cell BK195.out 2).trans rfl⟩ (fun hHeld => ?_)
         clear hK K
         refine norm_ (a' := ?_) ?_ ?_
         rotate_left
         · show Act.put _ (some 6) _ = _
           simp only [Act.put, List.setIfInBounds_toArray, List.set_cons_zero, List.set_cons_succ, i64_w, i32_w]
           rfl
         refine one_ (i := 3) (N := some 25) #[true, true, true, true, false, false, false, false, true, false, false] rfl rfl (one_of HT_.out (by kernel_rfl)) (by decide) (fun K hK => ?_)
         refine goes_ Try.func16 (by kernel_rfl) rfl #[.agg #[.int .i64 a1_0, .int .i64 a1_1, .int .i64 a1_2]] (by rfl) rfl rfl (by (try simp only [List.map_toArray, List.map_cons, List.map_nil]); first | done | rfl | (simp only [List.length_drop, List.length_take]; rfl)) ?_
         with_reducible refine (laws_toClue.calls a1_0 a1_1 a1_2 t200 t201 t202 _ A11.out).mono ?_
         rintro e w25 ⟨rfl, hb⟩
         refine ⟨_, rfl, ?_⟩
         have n0_ := Aside0.mk (Kd.R_below (Xmv.rm HO199.out) hb); have n1_ := Aside0.mk (blk_below (g := gb194) (o := .cells #[.slice A0_0 l0_0.length c0_0] 40 (0, 0)) (Xmv.bm BK194.out) hb); have n2_ := Aside0.mk (blk_below (g := gb195) (o := .cells #[.int .i64 a1_0, .int .i64 a1_1, .int .i64 a1_2] 23 (0, 0)) (Xmv.bm BK195.out) hb); have n3_ := Aside0.mk (blk_below (g := gb207) (o := .cells #[.slice none 0 0] 45 (0, 0)) (Xmv.bm BK207.out) hb); have n4_ := Aside0.mk (below_step Xmv.ub hb); clear HO199 BK194 BK195 BK207 HB; have HO199 := n0_; have BK194 := n1_; have BK195 := n2_; have BK207 := n3_; have HB := n4_; clear n0_ n1_ n2_ n3_ n4_; (try clear hb); (try clear hb2); (try clear hk); (try clear hi)
         obtain ⟨Ao26, co26, eo26⟩ := Kd.R_slice HO199.out
         (first | subst eo26 | (injection eo26 with f1_ f2_ f3_; have f4_ := f1_.symm; have f5_ := f3_.symm; clear f1_ f2_ f3_; subst f4_; subst f5_))
         refine hK.out _ _ ⟨(blk_cell BK194.out 0).trans rfl, (blk_cell BK195.out 0).trans rfl, (blk_cell BK195.out 1).trans rfl, (blk_cell BK195.out 2).trans rfl⟩ (fun hHeld => ?_)
         clear hK K
         refine norm_ (a' := ?_) ?_ ?_
         rotate_left
         · show Act.put _ (some 25) _ = _
           simp only [Act.put, List.setIfInBounds_toArray, List.set_cons_zero, List.set_cons_succ, i64_w, i32_w]
           rfl
         refine one_ (i := 4) (N := some 26) #[true, true, true, true, true, false, false, false, true, false, false] rfl rfl (one_of HT_.out (by kernel_rfl)) (by decide) (fun K hK => ?_)
         refine goes_ Try.func36 (by kernel_rfl) rfl #[.agg #[.slice Ao26 t197.length co26], .agg #[.int .i64 t200, .int .i64 t201, .int .i64 t202]] (by rfl) rfl rfl (by (try simp only [List.map_toArray, List.map_cons, List.map_nil]); first | done | rfl | (simp only [List.length_drop, List.length_take]; rfl)) ?_
         with_reducible refine (spec_AddClue.calls k _ _ t197 t200 t201 t202 t203 t206 _ ?side1 ?side2 A12.out).mono ?_
         (case side1 => repeat (first | exact (Kd.R_reads' HO199.out).2.2 | (with_reducible refine Kd.C_alloc ?_ _) | (with_reducible refine Kd.C_drewN ?_ _) | (with_reducible refine Kd.C_drew ?_)))
         (case side2 => exact (Kd.R_reads' HO199.out).2.1)
         rintro e w27 ⟨v204, rfl, ho0, hb⟩
         refine ⟨_, rfl, ?_⟩
         have n0_ := Aside0.mk (Kd.R_elder' (Xmv.rm HO199.out) (Kd.R_base ho0) hb); have n1_ := Aside0.mk (Kd.R_lower (Kd.R_new' ho0 (Kd.R_lt (Xmv.rm HO199.out))) (below_size Xmv.ub)); have n2_ := Aside0.mk (blk_below (g := gb194) (o := .cells #[.slice A0_0 l0_0.length c0_0] 40 (0, 0)) (Xmv.bm BK194.out) hb); have n3_ := Aside0.mk (blk_below (g := gb195) (o := .cells #[.int .i64 a1_0, .int .i64 a1_1, .int .i64 a1_2] 23 (0, 0)) (Xmv.bm BK195.out) hb); have n4_ := Aside0.mk (blk_below (g := gb207) (o := .cells #[.slice none 0 0] 45 (0, 0)) (Xmv.bm BK207.out) hb); have n5_ := Aside0.mk (below_step Xmv.ub hb); clear HO199 BK194 BK195 BK207 HB; have HO199 := n0_; have HO205 := n1_; have BK194 := n2_; have BK195 := n3_; have BK207 := n4_; have HB := n5_; clear n0_ n1_ n2_ n3_ n4_ n5_; (try clear hb); (try clear hb2); (try clear hk); (try clear hi); (try clear ho0)
         refine hK.out _ _ ⟨(blk_cell BK194.out 0).trans rfl, (blk_cell BK195.out 0).trans rfl, (blk_cell BK195.out 1).trans rfl, (blk_cell BK195.out 2).trans rfl⟩ (fun hHeld => ?_)
         clear hK K
         refine norm_ (a' := ?_) ?_ ?_
         rotate_left
         · show Act.put _ (some 26) _ = _
           simp only [Act.put, List.setIfInBounds_toArray, List.set_cons_zero, List.set_cons_succ, i64_w, i32_w]
           rfl
         refine pure_ (i := 5) (N := some 21) (v := ?_) (a' := ?_) #[true, true, true, true, true, true, false, false, true, false, false] rfl rfl (any_of HT_.out (by kernel_rfl)) (fun _ _ _ h => h) (Or.inl ⟨by rfl, ?_⟩) ?_ ?_
         rotate_left
         · intro w'
           go_simp
           with_reducible rfl
         rotate_left
         · simp only [Act.put, List.setIfInBounds_toArray, List.set_cons_zero, List.set_cons_succ, i64_w, i32_w]
           rfl
         refine pure_ (i := 6) (N := some 27) (v := ?_) (a' := ?_) #[true, true, true, true, true, true, true, false, true, false, false] rfl rfl (any_of HT_.out (by kernel_rfl)) (fun _ _ _ h => h) (Or.inl ⟨by rfl, ?_⟩) ?_ ?_
         rotate_left
         · intro w'
           go_simp
           with_reducible rfl
         rotate_left
         · simp only [Act.put, List.setIfInBounds_toArray, List.set_cons_zero, List.set_cons_succ, i64_w, i32_w]
           rfl
         refine pure_ (i := 7) (N := some 28) (v := ?_) (a' := ?_) #[true, true, true, true, true, true, true, true, true, false, false] rfl rfl (any_of HT_.out (by kernel_rfl)) (fun _ _ _ h => h) (Or.inl ⟨by rfl, ?_⟩) ?_ ?_
         rotate_left
         · intro w'
           go_simp
           with_reducible rfl
         rotate_left
         · simp only [Act.put, List.setIfInBounds_toArray, List.set_cons_zero, List.set_cons_succ, i64_w, i32_w]
           rfl
         exact norm_ (by simp only [putAll, Act.put, List.setIfInBounds_toArray, List.set_cons_zero, List.set_cons_succ]) (hCont (.slice Ao26 t197.length co26, v204, gb207) _ ⟨hHeld, (by (with_reducible repeat (first | apply Kd.R_alloc | apply Kd.R_drewN | apply Kd.R_drew)); exact Kd.R_mono HO199.out (fun _ hk => hk.2)), (by (with_reducible repeat (first | apply Kd.R_alloc | apply Kd.R_drewN | apply Kd.R_drew)); exact Kd.R_mono HO205.out (fun _ hk => hk.2)), (Xmv.bm BK194.out), (Xmv.bm BK195.out), (Xmv.bm BK207.out), GW207.out, GE207.out, NB194_207.out, NB207_194.out, NB195_207.out, NB207_195.out, Xmv.ub⟩)
     · skip
       refine box_step ?hg (N := 6) ?hd (cs := #[.slice none 0 0]) (t := 45) ?hr ?_; (case hd => rfl); (case hg => rfl); (case hr => first | (go_simp; done) | (go_simp; rfl))
       intro gb207 hg w23 hbox hb
       have n0_ := Aside0.mk (blk_below (g := gb194) (o := .cells #[.slice A0_0 l0_0.length c0_0] 40 (0, 0)) (Xmv.bm BK194.out) hb); have n1_ := Aside0.mk (blk_below (g := gb195) (o := .cells #[.int .i64 a1_0, .int .i64 a1_1, .int .i64 a1_2] 23 (0, 0)) (Xmv.bm BK195.out) hb); have n2_ := Aside0.mk (below_step Xmv.ub hb); have n3_ := Aside0.mk (hbox); have n4_ := Aside0.mk ((by rw [hg]; exact (below_size Xmv.ub) : w.heap.size ≤ gb207)); have n5_ := Aside0.mk ((by rw [hg]; exact (below_size Xmv.ub) : w.heap.size ≤ gb207)); have n6_ := Aside0.mk ((by rw [hg]; exact Nat.ne_of_lt (blk_lt (g := gb194) (o := .cells #[.slice A0_0 l0_0.length c0_0] 40 (0, 0)) (Xmv.bm BK194.out)) : gb194 ≠ gb207)); have n7_ := Aside0.mk ((by rw [hg]; exact Nat.ne_of_gt (blk_lt (g := gb194) (o := .cells #[.slice A0_0 l0_0.length c0_0] 40 (0, 0)) (Xmv.bm BK194.out)) : gb207 ≠ gb194)); have n8_ := Aside0.mk ((by rw [hg]; exact Nat.ne_of_lt (blk_lt (g := gb195) (o := .cells #[.int .i64 a1_0, .int .i64 a1_1, .int .i64 a1_2] 23 (0, 0)) (Xmv.bm BK195.out)) : gb195 ≠ gb207)); have n9_ := Aside0.mk ((by rw [hg]; exact Nat.ne_of_gt (blk_lt (g := gb195) (o := .cells #[.int .i64 a1_0, .int .i64 a1_1, .int .i64 a1_2] 23 (0, 0)) (Xmv.bm BK195.out)) : gb207 ≠ gb195)); clear BK194 BK195 HB; have BK194 := n0_; have BK195 := n1_; have HB := n2_; have BK207 := n3_; have GW207 := n4_; have GE207 := n5_; have NB194_207 := n6_; have NB207_194 := n7_; have NB195_207 := n8_; have NB207_195 := n9_; clear n0_ n1_ n2_ n3_ n4_ n5_ n6_ n7_ n8_ n9_ hb hbox hg
       refine hK.out _ _ ⟨(blk_cell BK194.out 0).trans rfl, (blk_cell BK195.out 0).trans rfl, (blk_cell BK195.out 1).trans rfl, (blk_cell BK195.out 2).trans rfl⟩ (fun hHeld => ?_)
       clear hK K
       refine norm_ (a' := ?_) ?_ ?_
       rotate_left
       · show Act.put _ (some 6) _ = _
         simp only [Act.put, List.setIfInBounds_toArray, List.set_cons_zero, List.set_cons_succ, i64_w, i32_w]
         rfl
       refine one_ (i := 1) (N := some 23) #[true, true, true, false, false, false, false, false, true, false, false] rfl rfl (one_of HT_.out (by kernel_rfl)) (by decide) (fun K hK => ?_)
       refine goes_ Try.func29 (by kernel_rfl) rfl #[.agg #[.slice A0_0 l0_0.length c0_0]] (by rfl) rfl rfl (by (try simp only [List.map_toArray, List.map_cons, List.map_nil]); first | done | rfl | (simp only [List.length_drop, List.length_take]; rfl)) ?_
       with_reducible refine (laws_toPuzzle.calls k _ _ l0_0 t197 _ ?side1 ?side2 A10.out).mono ?_
       (case side1 => repeat (first | exact (Kd.C_below HR0_0.out HB.out) | (with_reducible refine Kd.C_alloc ?_ _) | (with_reducible refine Kd.C_drewN ?_ _) | (with_reducible refine Kd.C_drew ?_)))
       (case side2 => exact HC0_0.out)
       rintro e w24 ⟨v198, rfl, ho0, hb⟩
       refine ⟨_, rfl, ?_⟩
       have n0_ := Aside0.mk (Kd.R_lower ho0 (below_size Xmv.ub)); have n1_ := Aside0.mk (blk_below (g := gb194) (o := .cells #[.slice A0_0 l0_0.length c0_0] 40 (0, 0)) (Xmv.bm BK194.out) hb); have n2_ := Aside0.mk (blk_below (g := gb195) (o := .cells #[.int .i64 a1_0, .int .i64 a1_1, .int .i64 a1_2] 23 (0, 0)) (Xmv.bm BK195.out) hb); have n3_ := Aside0.mk (blk_below (g := gb207) (o := .cells #[.slice none 0 0] 45 (0, 0)) (Xmv.bm BK207.out) hb); have n4_ := Aside0.mk (below_step Xmv.ub hb); clear BK194 BK195 BK207 HB; have HO199 := n0_; have BK194 := n1_; have BK195 := n2_; have BK207 := n3_; have HB := n4_; clear n0_ n1_ n2_ n3_ n4_; (try clear hb); (try clear hb2); (try clear hk); (try clear hi); (try clear ho0)
       refine hK.out _ _ ⟨(blk_cell BK194.out 0).trans rfl, (blk_cell BK195.out 0).trans rfl, (blk_cell BK195.out 1).trans rfl, (blk_cell BK195.out 2).trans rfl⟩ (fun hHeld => ?_)
       clear hK K
       refine norm_ (a' := ?_) ?_ ?_
       rotate_left
       · show Act.put _ (some 23) _ = _
         simp only [Act.put, List.setIfInBounds_toArray, List.set_cons_zero, List.set_cons_succ, i64_w, i32_w]
         rfl
       refine one_ (i := 3) (N := some 25) #[true, true, true, true, false, false, false, false, true, false, false] rfl rfl (one_of HT_.out (by kernel_rfl)) (by decide) (fun K hK => ?_)
       refine goes_ Try.func16 (by kernel_rfl) rfl #[.agg #[.int .i64 a1_0, .int .i64 a1_1, .int .i64 a1_2]] (by rfl) rfl rfl (by (try simp only [List.map_toArray, List.map_cons, List.map_nil]); first | done | rfl | (simp only [List.length_drop, List.length_take]; rfl)) ?_
       with_reducible refine (laws_toClue.calls a1_0 a1_1 a1_2 t200 t201 t202 _ A11.out).mono ?_
       rintro e w25 ⟨rfl, hb⟩
       refine ⟨_, rfl, ?_⟩
       have n0_ := Aside0.mk (Kd.R_below (Xmv.rm HO199.out) hb); have n1_ := Aside0.mk (blk_below (g := gb194) (o := .cells #[.slice A0_0 l0_0.length c0_0] 40 (0, 0)) (Xmv.bm BK194.out) hb); have n2_ := Aside0.mk (blk_below (g := gb195) (o := .cells #[.int .i64 a1_0, .int .i64 a1_1, .int .i64 a1_2] 23 (0, 0)) (Xmv.bm BK195.out) hb); have n3_ := Aside0.mk (blk_below (g := gb207) (o := .cells #[.slice none 0 0] 45 (0, 0)) (Xmv.bm BK207.out) hb); have n4_ := Aside0.mk (below_step Xmv.ub hb); clear HO199 BK194 BK195 BK207 HB; have HO199 := n0_; have BK194 := n1_; have BK195 := n2_; have BK207 := n3_; have HB := n4_; clear n0_ n1_ n2_ n3_ n4_; (try clear hb); (try clear hb2); (try clear hk); (try clear hi)
       obtain ⟨Ao26, co26, eo26⟩ := Kd.R_slice HO199.out
       (first | subst eo26 | (injection eo26 with f1_ f2_ f3_; have f4_ := f1_.symm; have f5_ := f3_.symm; clear f1_ f2_ f3_; subst f4_; subst f5_))
       refine hK.out _ _ ⟨(blk_cell BK194.out 0).trans rfl, (blk_cell BK195.out 0).trans rfl, (blk_cell BK195.out 1).trans rfl, (blk_cell BK195.out 2).trans rfl⟩ (fun hHeld => ?_)
       clear hK K
       refine norm_ (a' := ?_) ?_ ?_
       rotate_left
       · show Act.put _ (some 25) _ = _
         simp only [Act.put, List.setIfInBounds_toArray, List.set_cons_zero, List.set_cons_succ, i64_w, i32_w]
         rfl
       refine one_ (i := 4) (N := some 26) #[true, true, true, true, true, false, false, false, true, false, false] rfl rfl (one_of HT_.out (by kernel_rfl)) (by decide) (fun K hK => ?_)
       refine goes_ Try.func36 (by kernel_rfl) rfl #[.agg #[.slice Ao26 t197.length co26], .agg #[.int .i64 t200, .int .i64 t201, .int .i64 t202]] (by rfl) rfl rfl (by (try simp only [List.map_toArray, List.map_cons, List.map_nil]); first | done | rfl | (simp only [List.length_drop, List.length_take]; rfl)) ?_
       with_reducible refine (spec_AddClue.calls k _ _ t197 t200 t201 t202 t203 t206 _ ?side1 ?side2 A12.out).mono ?_
       (case side1 => repeat (first | exact (Kd.R_reads' HO199.out).2.2 | (with_reducible refine Kd.C_alloc ?_ _) | (with_reducible refine Kd.C_drewN ?_ _) | (with_reducible refine Kd.C_drew ?_)))
       (case side2 => exact (Kd.R_reads' HO199.out).2.1)
       rintro e w27 ⟨v204, rfl, ho0, hb⟩
       refine ⟨_, rfl, ?_⟩
       have n0_ := Aside0.mk (Kd.R_elder' (Xmv.rm HO199.out) (Kd.R_base ho0) hb); have n1_ := Aside0.mk (Kd.R_lower (Kd.R_new' ho0 (Kd.R_lt (Xmv.rm HO199.out))) (below_size Xmv.ub)); have n2_ := Aside0.mk (blk_below (g := gb194) (o := .cells #[.slice A0_0 l0_0.length c0_0] 40 (0, 0)) (Xmv.bm BK194.out) hb); have n3_ := Aside0.mk (blk_below (g := gb195) (o := .cells #[.int .i64 a1_0, .int .i64 a1_1, .int .i64 a1_2] 23 (0, 0)) (Xmv.bm BK195.out) hb); have n4_ := Aside0.mk (blk_below (g := gb207) (o := .cells #[.slice none 0 0] 45 (0, 0)) (Xmv.bm BK207.out) hb); have n5_ := Aside0.mk (below_step Xmv.ub hb); clear HO199 BK194 BK195 BK207 HB; have HO199 := n0_; have HO205 := n1_; have BK194 := n2_; have BK195 := n3_; have BK207 := n4_; have HB := n5_; clear n0_ n1_ n2_ n3_ n4_ n5_; (try clear hb); (try clear hb2); (try clear hk); (try clear hi); (try clear ho0)
       refine hK.out _ _ ⟨(blk_cell BK194.out 0).trans rfl, (blk_cell BK195.out 0).trans rfl, (blk_cell BK195.out 1).trans rfl, (blk_cell BK195.out 2).trans rfl⟩ (fun hHeld => ?_)
       clear hK K
       refine norm_ (a' := ?_) ?_ ?_
       rotate_left
       · show Act.put _ (some 26) _ = _
         simp only [Act.put, List.setIfInBounds_toArray, List.set_cons_zero, List.set_cons_succ, i64_w, i32_w]
         rfl
       refine pure_ (i := 5) (N := some 21) (v := ?_) (a' := ?_) #[true, true, true, true, true, true, false, false, true, false, false] rfl rfl (any_of HT_.out (by kernel_rfl)) (fun _ _ _ h => h) (Or.inl ⟨by rfl, ?_⟩) ?_ ?_
       rotate_left
       · intro w'
         go_simp
         with_reducible rfl
       rotate_left
       · simp only [Act.put, List.setIfInBounds_toArray, List.set_cons_zero, List.set_cons_succ, i64_w, i32_w]
         rfl
       refine pure_ (i := 6) (N := some 27) (v := ?_) (a' := ?_) #[true, true, true, true, true, true, true, false, true, false, false] rfl rfl (any_of HT_.out (by kernel_rfl)) (fun _ _ _ h => h) (Or.inl ⟨by rfl, ?_⟩) ?_ ?_
       rotate_left
       · intro w'
         go_simp
         with_reducible rfl
       rotate_left
       · simp only [Act.put, List.setIfInBounds_toArray, List.set_cons_zero, List.set_cons_succ, i64_w, i32_w]
         rfl
       refine pure_ (i := 7) (N := some 28) (v := ?_) (a' := ?_) #[true, true, true, true, true, true, true, true, true, false, false] rfl rfl (any_of HT_.out (by kernel_rfl)) (fun _ _ _ h => h) (Or.inl ⟨by rfl, ?_⟩) ?_ ?_
       rotate_left
       · intro w'
         go_simp
         with_reducible rfl
       rotate_left
       · simp only [Act.put, List.setIfInBounds_toArray, List.set_cons_zero, List.set_cons_succ, i64_w, i32_w]
         rfl
       exact norm_ (by simp only [putAll, Act.put, List.setIfInBounds_toArray, List.set_cons_zero, List.set_cons_succ]) (hCont (.slice Ao26 t197.length co26, v204, gb207) _ ⟨hHeld, (by (with_reducible repeat (first | apply Kd.R_alloc | apply Kd.R_drewN | apply Kd.R_drew)); exact Kd.R_mono HO199.out (fun _ hk => hk.2)), (by (with_reducible repeat (first | apply Kd.R_alloc | apply Kd.R_drewN | apply Kd.R_drew)); exact Kd.R_mono HO205.out (fun _ hk => hk.2)), (Xmv.bm BK194.out), (Xmv.bm BK195.out), (Xmv.bm BK207.out), GW207.out, GE207.out, NB194_207.out, NB207_194.out, NB195_207.out, NB207_195.out, Xmv.ub⟩)
   rintro ⟨v198, v204, gb207⟩ w28 ⟨hS_, h0_, h1_, h2_, h3_, h4_, h5_, h6_, h7_, h8_, h9_, h10_, h11_⟩
   have n0_ : Aside0 (Kd.R k25 25 w28 w.heap.size (fun k_ => some k_ ≠ (v204 : Value).ownBlock) v198 t197) := ⟨h0_⟩
   have n1_ : Aside0 (Kd.R k25 25 w28 w.heap.size (fun k_ => some k_ ≠ (v198 : Value).ownBlock) v204 t203) := ⟨h1_⟩
   have n2_ : Aside0 (w28.heap[gb194]? = some (.cells #[.slice A0_0 l0_0.length c0_0] 40 (0, 0))) := ⟨h2_⟩
   have n3_ : Aside0 (w28.heap[gb195]? = some (.cells #[.int .i64 a1_0, .int .i64 a1_1, .int .i64 a1_2] 23 (0, 0))) := ⟨h3_⟩
   have n4_ : Aside0 (w28.heap[gb207]? = some (.cells #[.slice none 0 0] 45 (0, 0))) := ⟨h4_⟩
   have n5_ : Aside0 (w.heap.size ≤ gb207) := ⟨h5_⟩
   have n6_ : Aside0 (w.heap.size ≤ gb207) := ⟨h6_⟩
   have n7_ : Aside0 (gb194 ≠ gb207) := ⟨h7_⟩
   have n8_ : Aside0 (gb207 ≠ gb194) := ⟨h8_⟩
   have n9_ : Aside0 (gb195 ≠ gb207) := ⟨h9_⟩
   have n10_ : Aside0 (gb207 ≠ gb195) := ⟨h10_⟩
   have n11_ : Aside0 (Below w.heap.size w w28) := ⟨h11_⟩
   clear BK194; clear BK195 HB h0_ h1_ h2_ h3_ h4_ h5_ h6_ h7_ h8_ h9_ h10_ h11_; have HO199 := n0_; have HO205 := n1_; have BK194 := n2_; have BK195 := n3_; have BK207 := n4_; have GW207 := n5_; have GE207 := n6_; have NB194_207 := n7_; have NB207_194 := n8_; have NB195_207 := n9_; have NB207_195 := n10_; have HB := n11_; clear n0_ n1_ n2_ n3_ n4_ n5_ n6_ n7_ n8_ n9_ n10_ n11_
   have hHeld : w28.cell? ⟨gb194, 0, none⟩ = some (.slice A0_0 l0_0.length c0_0) ∧ w28.cell? ⟨gb195, 0, none⟩ = some (.int .i64 a1_0) ∧ w28.cell? ⟨gb195, 1, none⟩ = some (.int .i64 a1_1) ∧ w28.cell? ⟨gb195, 2, none⟩ = some (.int .i64 a1_2) := hS_
   obtain ⟨Ao29, co29, eo29⟩ := Kd.R_slice HO205.out
   (first | subst eo29 | (injection eo29 with f1_ f2_ f3_; have f4_ := f1_.symm; have f5_ := f3_.symm; clear f1_ f2_ f3_; subst f4_; subst f5_))
   refine norm_ (a' := ?_) ?_ ?_
   rotate_left
   · simp only [putAll, Act.put, List.setIfInBounds_toArray, List.set_cons_zero, List.set_cons_succ]
     rfl
   refine one_ (i := 9) (N := none) #[true, true, true, true, true, true, true, true, true, true, false] rfl rfl (one_of HT_.out (by kernel_rfl)) (by decide) (fun K hK => ?_)
   have hs30 : w28.cell? ⟨gb207, 0, none⟩ = some (.slice none 0 0) := (blk_cell BK207.out 0).trans rfl
   have hfs30 := blk_frozen BK207.out 0
   have hns30_0 := NB194_207.out
   have hns30_1 := NB195_207.out
   have hms30_0 := NB207_194.out
   have hms30_1 := NB207_195.out
   refine skip_ (w1 := ?_) (by rfl) rfl ?_ ?_
   rotate_left
   · go_simp
     rfl
   refine hK.out _ _ ⟨((cell_far (p := ⟨gb207, _, none⟩) NB194_207.out _).trans (hHeld.1)), ((cell_far (p := ⟨gb207, _, none⟩) NB195_207.out _).trans (hHeld.2.1)), ((cell_far (p := ⟨gb207, _, none⟩) NB195_207.out _).trans (hHeld.2.2.1)), ((cell_far (p := ⟨gb207, _, none⟩) NB195_207.out _).trans (hHeld.2.2.2))⟩ (fun hHeld => ?_)
   clear hK K
   refine pure_ (i := 10) (N := some 7) (v := ?_) (a' := ?_) #[true, true, true, true, true, true, true, true, true, true, true] rfl rfl (any_of HT_.out (by kernel_rfl)) (fun _ _ _ h => h) (Or.inl ⟨by rfl, ?_⟩) ?_ ?_
   rotate_left
   · intro w'
     go_simp
     with_reducible rfl
   rotate_left
   · simp only [Act.put, List.setIfInBounds_toArray, List.set_cons_zero, List.set_cons_succ, i64_w, i32_w]
     rfl
   refine done_ (done_of HT_.out (by kernel_rfl)) ?_
   have hnb31 := NB194_207.out
   have hnc31 := NB207_194.out
   have hcz32_0 : w28.cell? ⟨gb194, 0, none⟩ = some (.slice A0_0 l0_0.length c0_0) := (blk_cell BK194.out 0).trans rfl
   have hfz32_0 := blk_frozen BK194.out 0
   try go_wp2_with (first | ((with_reducible refine gate_callee (f := 29) rfl ?_); refine goesL_ (some 30) rfl rfl Try.func29 (by kernel_rfl) rfl #[.agg #[.slice A0_0 l0_0.length c0_0]] rfl (by (try simp only [List.map_toArray, List.map_cons, List.map_nil]); first | done | rfl | (simp only [List.length_drop, List.length_take]; rfl)) ?_; (with_reducible refine (laws_toPuzzle.calls k _ _ l0_0 t208 _ ?side1 ?side2 A13.out).mono ?_); (case side1 => exact Kd.C_below HR0_0.out Xmv.ub); (case side2 => exact HC0_0.out); rintro e w33 ⟨v209, rfl, ho0, hb⟩; refine ⟨_, rfl, ?_⟩; have n0_ := Aside0.mk (Kd.R_elder' (by (with_reducible repeat (first | apply Kd.R_alloc | apply Kd.R_drewN | apply Kd.R_drew)); exact (Kd.R_mono (Kd.R_far (p := ⟨gb207, 0, none⟩) (Kd.R_types HO199.out BK207.out (by decide)) (fun _ hk => hk.2) (.slice Ao29 t203.length co29)) (fun _ h_ => h_.1))) (Kd.R_base ho0) hb); have n1_ := Aside0.mk (Kd.R_elder' (by (with_reducible repeat (first | apply Kd.R_alloc | apply Kd.R_drewN | apply Kd.R_drew)); exact (Kd.R_mono (Kd.R_far (p := ⟨gb207, 0, none⟩) (Kd.R_types HO205.out BK207.out (by decide)) (fun _ hk => hk.2) (.slice Ao29 t203.length co29)) (fun _ h_ => h_.1))) (Kd.R_base ho0) hb); have n2_ := Aside0.mk (Kd.R_lower (Kd.R_new' (Kd.R_new' ho0 (Kd.R_lt (by (with_reducible repeat (first | apply Kd.R_alloc | apply Kd.R_drewN | apply Kd.R_drew)); exact (Kd.R_mono (Kd.R_far (p := ⟨gb207, 0, none⟩) (Kd.R_types HO199.out BK207.out (by decide)) (fun _ hk => hk.2) (.slice Ao29 t203.length co29)) (fun _ h_ => h_.1))))) (Kd.R_lt (by (with_reducible repeat (first | apply Kd.R_alloc | apply Kd.R_drewN | apply Kd.R_drew)); exact (Kd.R_mono (Kd.R_far (p := ⟨gb207, 0, none⟩) (Kd.R_types HO205.out BK207.out (by decide)) (fun _ hk => hk.2) (.slice Ao29 t203.length co29)) (fun _ h_ => h_.1))))) (below_size Xmv.ub)); have n3_ := Aside0.mk (blk_below (g := gb194) (o := .cells #[.slice A0_0 l0_0.length c0_0] 40 (0, 0)) (by (with_reducible repeat (first | refine blk_drewN ?_ _ | refine blk_drew ?_ | refine blk_alloc ?_ _)); refine blk_far ?_ NB194_207.out _; (with_reducible repeat (first | refine blk_drewN ?_ _ | refine blk_drew ?_ | refine blk_alloc ?_ _)); exact BK194.out) hb); have n4_ := Aside0.mk (blk_below (g := gb195) (o := .cells #[.int .i64 a1_0, .int .i64 a1_1, .int .i64 a1_2] 23 (0, 0)) (by (with_reducible repeat (first | refine blk_drewN ?_ _ | refine blk_drew ?_ | refine blk_alloc ?_ _)); refine blk_far ?_ NB195_207.out _; (with_reducible repeat (first | refine blk_drewN ?_ _ | refine blk_drew ?_ | refine blk_alloc ?_ _)); exact BK195.out) hb); have n5_ := Aside0.mk (blk_below (g := gb207) (o := .cells #[.slice Ao29 t203.length co29] 45 (0, 0)) (by (with_reducible repeat (first | refine blk_drewN ?_ _ | refine blk_drew ?_ | refine blk_alloc ?_ _)); refine blk_put (cs := #[.slice none 0 0]) ?_ 0 _ rfl; (with_reducible repeat (first | refine blk_drewN ?_ _ | refine blk_drew ?_ | refine blk_alloc ?_ _)); exact BK207.out) hb); have n6_ := Aside0.mk (below_step Xmv.ub hb); clear HO199; clear HO205; clear BK194; clear BK195; clear BK207; clear HB; have HO199 := n0_; have HO205 := n1_; have HO210 := n2_; have BK194 := n3_; have BK195 := n4_; have BK207 := n5_; have HB := n6_; clear n0_ n1_ n2_ n3_ n4_ n5_ n6_; (try clear hb); (try clear hb2); (try clear hk); (try clear hi); (try clear ho0)) | ((with_reducible refine gate_dst (N := 8) rfl ?_); refine box_event ?hg (N := 8) ?hd (cs := #[.slice none 0 0]) (t := 45) ?hr ?_; (case hd => rfl); (case hg => rfl); (case hr => first | (go_simp; done) | (go_simp; rfl)); intro gb211 hg w34 hbox hb; have n0_ := Aside0.mk (Kd.R_below (Xmv.rm HO199.out) hb); have n1_ := Aside0.mk (Kd.R_below (Xmv.rm HO205.out) hb); have n2_ := Aside0.mk (Kd.R_below (Xmv.rm HO210.out) hb); have n3_ := Aside0.mk (blk_below (g := gb194) (o := .cells #[.slice A0_0 l0_0.length c0_0] 40 (0, 0)) (Xmv.bm BK194.out) hb); have n4_ := Aside0.mk (blk_below (g := gb195) (o := .cells #[.int .i64 a1_0, .int .i64 a1_1, .int .i64 a1_2] 23 (0, 0)) (Xmv.bm BK195.out) hb); have n5_ := Aside0.mk (blk_below (g := gb207) (o := .cells #[.slice Ao29 t203.length co29] 45 (0, 0)) (Xmv.bm BK207.out) hb); have n6_ := Aside0.mk (below_step Xmv.ub hb); have n7_ := Aside0.mk (hbox); have n8_ := Aside0.mk ((by rw [hg]; exact (below_size Xmv.ub) : w.heap.size ≤ gb211)); have n9_ := Aside0.mk ((by rw [hg]; exact (below_size Xmv.ub) : w.heap.size ≤ gb211)); have n10_ := Aside0.mk ((by rw [hg]; exact Nat.ne_of_lt (blk_lt (g := gb194) (o := .cells #[.slice A0_0 l0_0.length c0_0] 40 (0, 0)) (Xmv.bm BK194.out)) : gb194 ≠ gb211)); have n11_ := Aside0.mk ((by rw [hg]; exact Nat.ne_of_gt (blk_lt (g := gb194) (o := .cells #[.slice A0_0 l0_0.length c0_0] 40 (0, 0)) (Xmv.bm BK194.out)) : gb211 ≠ gb194)); have n12_ := Aside0.mk ((by rw [hg]; exact Nat.ne_of_lt (blk_lt (g := gb195) (o := .cells #[.int .i64 a1_0, .int .i64 a1_1, .int .i64 a1_2] 23 (0, 0)) (Xmv.bm BK195.out)) : gb195 ≠ gb211)); have n13_ := Aside0.mk ((by rw [hg]; exact Nat.ne_of_gt (blk_lt (g := gb195) (o := .cells #[.int .i64 a1_0, .int .i64 a1_1, .int .i64 a1_2] 23 (0, 0)) (Xmv.bm BK195.out)) : gb211 ≠ gb195)); have n14_ := Aside0.mk ((by rw [hg]; exact Nat.ne_of_lt (blk_lt (g := gb207) (o := .cells #[.slice Ao29 t203.length co29] 45 (0, 0)) (Xmv.bm BK207.out)) : gb207 ≠ gb211)); have n15_ := Aside0.mk ((by rw [hg]; exact Nat.ne_of_gt (blk_lt (g := gb207) (o := .cells #[.slice Ao29 t203.length co29] 45 (0, 0)) (Xmv.bm BK207.out)) : gb211 ≠ gb207)); clear HO199; clear HO205; clear HO210; clear BK194; clear BK195; clear BK207; clear HB; have HO199 := n0_; have HO205 := n1_; have HO210 := n2_; have BK194 := n3_; have BK195 := n4_; have BK207 := n5_; have HB := n6_; have BK211 := n7_; have GW211 := n8_; have GE211 := n9_; have NB194_211 := n10_; have NB211_194 := n11_; have NB195_211 := n12_; have NB211_195 := n13_; have NB207_211 := n14_; have NB211_207 := n15_; clear n0_ n1_ n2_ n3_ n4_ n5_ n6_ n7_ n8_ n9_ n10_ n11_ n12_ n13_ n14_ n15_; clear hb hbox hg; obtain ⟨Ao35, co35, eo35⟩ := Kd.R_slice HO210.out; subst eo35; have hnb36 := NB211_194.out; have hnc36 := NB194_211.out; have hnb37 := NB211_195.out; have hnc37 := NB195_211.out; have hnb38 := NB211_207.out; have hnc38 := NB207_211.out; have hcz39_0 : w34.cell? ⟨gb211, 0, none⟩ = some (.slice none 0 0) := (blk_cell BK211.out 0).trans rfl; have hfz39_0 := blk_frozen BK211.out 0))
   have n0_ : Aside0 (Kd.R k25 25 (w34.setCell ⟨gb211, 0, none⟩ (.slice Ao35 t208.length co35)) w.heap.size (fun k_ => some k_ ≠ (.slice Ao29 t203.length co29 : Value).ownBlock ∧ some k_ ≠ (.slice Ao35 t208.length co35 : Value).ownBlock) v198 t197) := ⟨by (with_reducible repeat (first | apply Kd.R_alloc | apply Kd.R_drewN | apply Kd.R_drew)); exact Kd.R_mono (Kd.R_far (p := ⟨gb211, 0, none⟩) (Kd.R_types HO199.out BK211.out (by decide)) (fun _ hk => hk.2) (.slice Ao35 t208.length co35)) (fun _ hk => ⟨hk.1.1, hk.1.2⟩)⟩
   have n1_ : Aside0 (Kd.R k25 25 (w34.setCell ⟨gb211, 0, none⟩ (.slice Ao35 t208.length co35)) w.heap.size (fun k_ => some k_ ≠ (v198 : Value).ownBlock ∧ some k_ ≠ (.slice Ao35 t208.length co35 : Value).ownBlock) (.slice Ao29 t203.length co29) t203) := ⟨by (with_reducible repeat (first | apply Kd.R_alloc | apply Kd.R_drewN | apply Kd.R_drew)); exact Kd.R_mono (Kd.R_far (p := ⟨gb211, 0, none⟩) (Kd.R_types HO205.out BK211.out (by decide)) (fun _ hk => hk.2) (.slice Ao35 t208.length co35)) (fun _ hk => ⟨hk.1.1, hk.1.2⟩)⟩
   have n2_ : Aside0 (Kd.R k25 25 (w34.setCell ⟨gb211, 0, none⟩ (.slice Ao35 t208.length co35)) w.heap.size (fun k_ => some k_ ≠ (v198 : Value).ownBlock ∧ some k_ ≠ (.slice Ao29 t203.length co29 : Value).ownBlock) (.slice Ao35 t208.length co35) t208) := ⟨by (with_reducible repeat (first | apply Kd.R_alloc | apply Kd.R_drewN | apply Kd.R_drew)); exact Kd.R_mono (Kd.R_far (p := ⟨gb211, 0, none⟩) (Kd.R_types HO210.out BK211.out (by decide)) (fun _ hk => hk.2) (.slice Ao35 t208.length co35)) (fun _ hk => ⟨hk.1.1.2, hk.1.2⟩)⟩
   have n3_ : Aside0 ((w34.setCell ⟨gb211, 0, none⟩ (.slice Ao35 t208.length co35)).heap[gb194]? = some (.cells #[.slice A0_0 l0_0.length c0_0] 40 (0, 0))) := ⟨by (with_reducible repeat (first | refine blk_drewN ?_ _ | refine blk_drew ?_ | refine blk_alloc ?_ _)); refine blk_far ?_ NB194_211.out _; (with_reducible repeat (first | refine blk_drewN ?_ _ | refine blk_drew ?_ | refine blk_alloc ?_ _)); exact BK194.out⟩
   have n4_ : Aside0 ((w34.setCell ⟨gb211, 0, none⟩ (.slice Ao35 t208.length co35)).heap[gb195]? = some (.cells #[.int .i64 a1_0, .int .i64 a1_1, .int .i64 a1_2] 23 (0, 0))) := ⟨by (with_reducible repeat (first | refine blk_drewN ?_ _ | refine blk_drew ?_ | refine blk_alloc ?_ _)); refine blk_far ?_ NB195_211.out _; (with_reducible repeat (first | refine blk_drewN ?_ _ | refine blk_drew ?_ | refine blk_alloc ?_ _)); exact BK195.out⟩
   have n5_ : Aside0 ((w34.setCell ⟨gb211, 0, none⟩ (.slice Ao35 t208.length co35)).heap[gb207]? = some (.cells #[.slice Ao29 t203.length co29] 45 (0, 0))) := ⟨by (with_reducible repeat (first | refine blk_drewN ?_ _ | refine blk_drew ?_ | refine blk_alloc ?_ _)); refine blk_far ?_ NB207_211.out _; (with_reducible repeat (first | refine blk_drewN ?_ _ | refine blk_drew ?_ | refine blk_alloc ?_ _)); exact BK207.out⟩
   have n6_ : Aside0 ((w34.setCell ⟨gb211, 0, none⟩ (.slice Ao35 t208.length co35)).heap[gb211]? = some (.cells #[.slice Ao35 t208.length co35] 45 (0, 0))) := ⟨by (with_reducible repeat (first | refine blk_drewN ?_ _ | refine blk_drew ?_ | refine blk_alloc ?_ _)); refine blk_put (cs := #[.slice none 0 0]) ?_ 0 _ rfl; (with_reducible repeat (first | refine blk_drewN ?_ _ | refine blk_drew ?_ | refine blk_alloc ?_ _)); exact BK211.out⟩
   have n7_ : Aside0 (Below w.heap.size w (w34.setCell ⟨gb211, 0, none⟩ (.slice Ao35 t208.length co35))) := ⟨by repeat (first | (with_reducible first | exact HB.out | apply below_alloc | apply pw_below_drewN | apply below_drew1 | refine below_set ?_ GE194.out | refine below_set ?_ GE195.out | refine below_set ?_ GE207.out | refine below_set ?_ GE211.out) | exact HB.out)⟩
   (try clear HO199); (try clear HO205); (try clear HO210); (try clear BK194); (try clear BK195); (try clear BK207); (try clear BK211); (try clear HB)
   generalize (w34.setCell ⟨gb211, 0, none⟩ (.slice Ao35 t208.length co35)) = w40 at n0_ n1_ n2_ n3_ n4_ n5_ n6_ n7_ ⊢
   have HO199 := n0_; have HO205 := n1_; have HO210 := n2_; have BK194 := n3_; have BK195 := n4_; have BK207 := n5_; have BK211 := n6_; have HB := n7_; clear n0_ n1_ n2_ n3_ n4_ n5_ n6_ n7_; have n0_ := Aside0.mk (Kd.R_drew HO199.out); have n1_ := Aside0.mk (Kd.R_drew HO205.out); have n2_ := Aside0.mk (Kd.R_drew HO210.out); have n3_ := Aside0.mk (blk_drew BK194.out); have n4_ := Aside0.mk (blk_drew BK195.out); have n5_ := Aside0.mk (blk_drew BK207.out); have n6_ := Aside0.mk (blk_drew BK211.out); have n7_ := Aside0.mk (below_drew1 HB.out); clear HO199 HO205 HO210 BK194 BK195 BK207 BK211 HB; have HO199 := n0_; have HO205 := n1_; have HO210 := n2_; have BK194 := n3_; have BK195 := n4_; have BK207 := n5_; have BK211 := n6_; have HB := n7_; clear n0_ n1_ n2_ n3_ n4_ n5_ n6_ n7_
   refine start_ (n := 10) (S := fun w' => w'.cell? ⟨gb211, 0, none⟩ = some (.slice Ao35 t208.length co35) ∧ w'.cell? ⟨gb195, 0, none⟩ = some (.int .i64 a1_0) ∧ w'.cell? ⟨gb195, 1, none⟩ = some (.int .i64 a1_1) ∧ w'.cell? ⟨gb195, 2, none⟩ = some (.int .i64 a1_2)) (ds := []) #[false, false, false, false, false, false, false, false, false, false] (by kernel_rfl) rfl rfl ⟨(blk_cell BK211.out 0).trans rfl, (blk_cell BK195.out 0).trans rfl, (blk_cell BK195.out 1).trans rfl, (blk_cell BK195.out 2).trans rfl⟩ (fun hHeld => ?_); refine with_tabW laws_FnExactAddClue.tab7 laws_FnExactAddClue.bits7 (fun HT_ HW_ => ?_)
   generalize w40.drew = w41 at HO199 HO205 HO210 BK194 BK195 BK207 BK211 HB hHeld ⊢
   refine take_ (i := 0) (N := some 32) (v := ?_) (a' := ?_) #[true, false, false, false, false, false, false, false, false, false] rfl rfl (take_ofW HT_.out HW_.out (by kernel_rfl)) (fun _ _ _ h => h) (Or.inl ⟨by rfl, ?_⟩) hHeld ?_ ?_
   rotate_left
   · rintro w' ⟨s0, s1, s2, s3⟩
     go_simp
     with_reducible rfl
   rotate_left
   · simp only [Act.put, List.setIfInBounds_toArray, List.set_cons_zero, List.set_cons_succ, i64_w, i32_w]
     rfl
   refine take_ (i := 1) (N := some 33) (v := ?_) (a' := ?_) #[true, true, false, false, false, false, false, false, false, false] rfl rfl (take_ofW HT_.out HW_.out (by kernel_rfl)) (fun _ _ _ h => h) (Or.inl ⟨by rfl, ?_⟩) hHeld ?_ ?_
   rotate_left
   · rintro w' ⟨s0, s1, s2, s3⟩
     go_simp
     with_reducible rfl
   rotate_left
   · simp only [Act.put, List.setIfInBounds_toArray, List.set_cons_zero, List.set_cons_succ, i64_w, i32_w]
     rfl
   refine join_ (σ := Value × Nat) 2 #[true, true, true, true, true, true, true, true, false, false] (fun s_ => [(34, .agg #[.int .i64 t212, .int .i64 t213, .int .i64 t214]), (35, .tuple #[.agg #[s_.1], .bool t218]), (9, .pointer (some ⟨s_.2, 0, none⟩)), (31, .tuple #[.agg #[s_.1], .bool t218]), (36, .agg #[s_.1]), (37, .bool t218)]) (fun s_ w' => (w'.cell? ⟨gb211, 0, none⟩ = some (.slice Ao35 t208.length co35) ∧ w'.cell? ⟨gb195, 0, none⟩ = some (.int .i64 a1_0) ∧ w'.cell? ⟨gb195, 1, none⟩ = some (.int .i64 a1_1) ∧ w'.cell? ⟨gb195, 2, none⟩ = some (.int .i64 a1_2)) ∧ (Kd.R k25 25 w' w.heap.size (fun k_ => some k_ ≠ (.slice Ao29 t203.length co29 : Value).ownBlock ∧ some k_ ≠ (.slice Ao35 t208.length co35 : Value).ownBlock ∧ some k_ ≠ (s_.1 : Value).ownBlock) v198 t197) ∧ (Kd.R k25 25 w' w.heap.size (fun k_ => some k_ ≠ (v198 : Value).ownBlock ∧ some k_ ≠ (.slice Ao35 t208.length co35 : Value).ownBlock ∧ some k_ ≠ (s_.1 : Value).ownBlock) (.slice Ao29 t203.length co29) t203) ∧ (Kd.R k25 25 w' w.heap.size (fun k_ => some k_ ≠ (v198 : Value).ownBlock ∧ some k_ ≠ (.slice Ao29 t203.length co29 : Value).ownBlock ∧ some k_ ≠ (s_.1 : Value).ownBlock) (.slice Ao35 t208.length co35) t208) ∧ (Kd.R k25 25 w' w.heap.size (fun k_ => some k_ ≠ (v198 : Value).ownBlock ∧ some k_ ≠ (.slice Ao29 t203.length co29 : Value).ownBlock ∧ some k_ ≠ (.slice Ao35 t208.length co35 : Value).ownBlock) s_.1 t215) ∧ (w'.heap[gb194]? = some (.cells #[.slice A0_0 l0_0.length c0_0] 40 (0, 0))) ∧ (w'.heap[gb195]? = some (.cells #[.int .i64 a1_0, .int .i64 a1_1, .int .i64 a1_2] 23 (0, 0))) ∧ (w'.heap[gb207]? = some (.cells #[.slice Ao29 t203.length co29] 45 (0, 0))) ∧ (w'.heap[gb211]? = some (.cells #[.slice Ao35 t208.length co35] 45 (0, 0))) ∧ (w'.heap[s_.2]? = some (.cells #[.slice none 0 0] 45 (0, 0))) ∧ (w.heap.size ≤ s_.2) ∧ (w.heap.size ≤ s_.2) ∧ (gb194 ≠ s_.2) ∧ (s_.2 ≠ gb194) ∧ (gb195 ≠ s_.2) ∧ (s_.2 ≠ gb195) ∧ (gb207 ≠ s_.2) ∧ (s_.2 ≠ gb207) ∧ (gb211 ≠ s_.2) ∧ (s_.2 ≠ gb211) ∧ (Below w.heap.size w w')) ?_ ?_
   rotate_left
   · intro hCont
     refine two_ (i := 2) (j := 7) (Ni := some 34) (Nj := some 9) #[true, true, true, false, false, false, false, false, false, false] #[true, true, false, false, false, false, false, true, false, false] rfl rfl rfl rfl (two_of HT_.out (by kernel_rfl)) (by decide) (by decide) (fun K hK => ?_) (fun K hK => ?_)
     · skip
       refine goes_ Try.func16 (by kernel_rfl) rfl #[.agg #[.int .i64 a1_0, .int .i64 a1_1, .int .i64 a1_2]] (by rfl) rfl rfl (by (try simp only [List.map_toArray, List.map_cons, List.map_nil]); first | done | rfl | (simp only [List.length_drop, List.length_take]; rfl)) ?_
       with_reducible refine (laws_toClue.calls a1_0 a1_1 a1_2 t212 t213 t214 _ A14.out).mono ?_
       rintro e w42 ⟨rfl, hb⟩
       refine ⟨_, rfl, ?_⟩
       have n0_ := Aside0.mk (Kd.R_below (Xmv.rm HO199.out) hb); have n1_ := Aside0.mk (Kd.R_below (Xmv.rm HO205.out) hb); have n2_ := Aside0.mk (Kd.R_below (Xmv.rm HO210.out) hb); have n3_ := Aside0.mk (blk_below (g := gb194) (o := .cells #[.slice A0_0 l0_0.length c0_0] 40 (0, 0)) (Xmv.bm BK194.out) hb); have n4_ := Aside0.mk (blk_below (g := gb195) (o := .cells #[.int .i64 a1_0, .int .i64 a1_1, .int .i64 a1_2] 23 (0, 0)) (Xmv.bm BK195.out) hb); have n5_ := Aside0.mk (blk_below (g := gb207) (o := .cells #[.slice Ao29 t203.length co29] 45 (0, 0)) (Xmv.bm BK207.out) hb); have n6_ := Aside0.mk (blk_below (g := gb211) (o := .cells #[.slice Ao35 t208.length co35] 45 (0, 0)) (Xmv.bm BK211.out) hb); have n7_ := Aside0.mk (below_step Xmv.ub hb); clear HO199 HO205 HO210 BK194 BK195 BK207 BK211 HB; have HO199 := n0_; have HO205 := n1_; have HO210 := n2_; have BK194 := n3_; have BK195 := n4_; have BK207 := n5_; have BK211 := n6_; have HB := n7_; clear n0_ n1_ n2_ n3_ n4_ n5_ n6_ n7_; (try clear hb); (try clear hb2); (try clear hk); (try clear hi)
       refine hK.out _ _ ⟨(blk_cell BK211.out 0).trans rfl, (blk_cell BK195.out 0).trans rfl, (blk_cell BK195.out 1).trans rfl, (blk_cell BK195.out 2).trans rfl⟩ (fun hHeld => ?_)
       clear hK K
       refine norm_ (a' := ?_) ?_ ?_
       rotate_left
       · show Act.put _ (some 34) _ = _
         simp only [Act.put, List.setIfInBounds_toArray, List.set_cons_zero, List.set_cons_succ, i64_w, i32_w]
         rfl
       refine two_ (i := 3) (j := 7) (Ni := some 35) (Nj := some 9) #[true, true, true, true, false, false, false, false, false, false] #[true, true, true, false, false, false, false, true, false, false] rfl rfl rfl rfl (two_of HT_.out (by kernel_rfl)) (by decide) (by decide) (fun K hK => ?_) (fun K hK => ?_)
       · skip
         refine goes_ Try.func37 (by kernel_rfl) rfl #[.agg #[.slice Ao35 t208.length co35], .agg #[.int .i64 t212, .int .i64 t213, .int .i64 t214]] (by rfl) rfl rfl (by (try simp only [List.map_toArray, List.map_cons, List.map_nil]); first | done | rfl | (simp only [List.length_drop, List.length_take]; rfl)) ?_
         with_reducible refine (impl_AddClue.calls k _ _ t208 t212 t213 t214 t215 t218 _ ?side1 ?side2 A15.out).mono ?_
         (case side1 => repeat (first | exact (Kd.R_reads' HO210.out).2.2 | (with_reducible refine Kd.C_alloc ?_ _) | (with_reducible refine Kd.C_drewN ?_ _) | (with_reducible refine Kd.C_drew ?_)))
         (case side2 => exact (Kd.R_reads' HO210.out).2.1)
         rintro e w43 ⟨v216, rfl, ho0, hb⟩
         refine ⟨_, rfl, ?_⟩
         have n0_ := Aside0.mk (Kd.R_elder' (Xmv.rm HO199.out) (Kd.R_base ho0) hb); have n1_ := Aside0.mk (Kd.R_elder' (Xmv.rm HO205.out) (Kd.R_base ho0) hb); have n2_ := Aside0.mk (Kd.R_elder' (Xmv.rm HO210.out) (Kd.R_base ho0) hb); have n3_ := Aside0.mk (Kd.R_lower (Kd.R_new' (Kd.R_new' (Kd.R_new' ho0 (Kd.R_lt (Xmv.rm HO199.out))) (Kd.R_lt (Xmv.rm HO205.out))) (Kd.R_lt (Xmv.rm HO210.out))) (below_size Xmv.ub)); have n4_ := Aside0.mk (blk_below (g := gb194) (o := .cells #[.slice A0_0 l0_0.length c0_0] 40 (0, 0)) (Xmv.bm BK194.out) hb); have n5_ := Aside0.mk (blk_below (g := gb195) (o := .cells #[.int .i64 a1_0, .int .i64 a1_1, .int .i64 a1_2] 23 (0, 0)) (Xmv.bm BK195.out) hb); have n6_ := Aside0.mk (blk_below (g := gb207) (o := .cells #[.slice Ao29 t203.length co29] 45 (0, 0)) (Xmv.bm BK207.out) hb); have n7_ := Aside0.mk (blk_below (g := gb211) (o := .cells #[.slice Ao35 t208.length co35] 45 (0, 0)) (Xmv.bm BK211.out) hb); have n8_ := Aside0.mk (below_step Xmv.ub hb); clear HO199 HO205 HO210 BK194 BK195 BK207 BK211 HB; have HO199 := n0_; have HO205 := n1_; have HO210 := n2_; have HO217 := n3_; have BK194 := n4_; have BK195 := n5_; have BK207 := n6_; have BK211 := n7_; have HB := n8_; clear n0_ n1_ n2_ n3_ n4_ n5_ n6_ n7_ n8_; (try clear hb); (try clear hb2); (try clear hk); (try clear hi); (try clear ho0)
         refine hK.out _ _ ⟨(blk_cell BK211.out 0).trans rfl, (blk_cell BK195.out 0).trans rfl, (blk_cell BK195.out 1).trans rfl, (blk_cell BK195.out 2).trans rfl⟩ (fun hHeld => ?_)
         clear hK K
         refine norm_ (a' := ?_) ?_ ?_
         rotate_left
         · show Act.put _ (some 35) _ = _
           simp only [Act.put, List.setIfInBounds_toArray, List.set_cons_zero, List.set_cons_succ, i64_w, i32_w]
           rfl
         refine pure_ (i := 4) (N := some 31) (v := ?_) (a' := ?_) #[true, true, true, true, true, false, false, false, false, false] rfl rfl (any_of HT_.out (by kernel_rfl)) (fun _ _ _ h => h) (Or.inl ⟨by rfl, ?_⟩) ?_ ?_
         rotate_left
         · intro w'
           go_simp
           with_reducible rfl
         rotate_left
         · simp only [Act.put, List.setIfInBounds_toArray, List.set_cons_zero, List.set_cons_succ, i64_w, i32_w]
           rfl
         refine pure_ (i := 5) (N := some 36) (v := ?_) (a' := ?_) #[true, true, true, true, true, true, false, false, false, false] rfl rfl (any_of HT_.out (by kernel_rfl)) (fun _ _ _ h => h) (Or.inl ⟨by rfl, ?_⟩) ?_ ?_
         rotate_left
         · intro w'
           go_simp
           with_reducible rfl
         rotate_left
         · simp only [Act.put, List.setIfInBounds_toArray, List.set_cons_zero, List.set_cons_succ, i64_w, i32_w]
           rfl
         refine pure_ (i := 6) (N := some 37) (v := ?_) (a' := ?_) #[true, true, true, true, true, true, true, false, false, false] rfl rfl (any_of HT_.out (by kernel_rfl)) (fun _ _ _ h => h) (Or.inl ⟨by rfl, ?_⟩) ?_ ?_
         rotate_left
         · intro w'
           go_simp
           with_reducible rfl
         rotate_left
         · simp only [Act.put, List.setIfInBounds_toArray, List.set_cons_zero, List.set_cons_succ, i64_w, i32_w]
           rfl
         refine one_ (i := 7) (N := some 9) #[true, true, true, true, true, true, true, true, false, false] rfl rfl (one_of HT_.out (by kernel_rfl)) (by decide) (fun K hK => ?_)
         refine box_step ?hg (N := 9) ?hd (cs := #[.slice none 0 0]) (t := 45) ?hr ?_; (case hd => rfl); (case hg => rfl); (case hr => first | (go_simp; done) | (go_simp; rfl))
         intro gb219 hg w44 hbox hb
         have n0_ := Aside0.mk (Kd.R_below (Xmv.rm HO199.out) hb); have n1_ := Aside0.mk (Kd.R_below (Xmv.rm HO205.out) hb); have n2_ := Aside0.mk (Kd.R_below (Xmv.rm HO210.out) hb); have n3_ := Aside0.mk (Kd.R_below (Xmv.rm HO217.out) hb); have n4_ := Aside0.mk (blk_below (g := gb194) (o := .cells #[.slice A0_0 l0_0.length c0_0] 40 (0, 0)) (Xmv.bm BK194.out) hb); have n5_ := Aside0.mk (blk_below (g := gb195) (o := .cells #[.int .i64 a1_0, .int .i64 a1_1, .int .i64 a1_2] 23 (0, 0)) (Xmv.bm BK195.out) hb); have n6_ := Aside0.mk (blk_below (g := gb207) (o := .cells #[.slice Ao29 t203.length co29] 45 (0, 0)) (Xmv.bm BK207.out) hb); have n7_ := Aside0.mk (blk_below (g := gb211) (o := .cells #[.slice Ao35 t208.length co35] 45 (0, 0)) (Xmv.bm BK211.out) hb); have n8_ := Aside0.mk (below_step Xmv.ub hb); have n9_ := Aside0.mk (hbox); have n10_ := Aside0.mk ((by rw [hg]; exact (below_size Xmv.ub) : w.heap.size ≤ gb219)); have n11_ := Aside0.mk ((by rw [hg]; exact (below_size Xmv.ub) : w.heap.size ≤ gb219)); have n12_ := Aside0.mk ((by rw [hg]; exact Nat.ne_of_lt (blk_lt (g := gb194) (o := .cells #[.slice A0_0 l0_0.length c0_0] 40 (0, 0)) (Xmv.bm BK194.out)) : gb194 ≠ gb219)); have n13_ := Aside0.mk ((by rw [hg]; exact Nat.ne_of_gt (blk_lt (g := gb194) (o := .cells #[.slice A0_0 l0_0.length c0_0] 40 (0, 0)) (Xmv.bm BK194.out)) : gb219 ≠ gb194)); have n14_ := Aside0.mk ((by rw [hg]; exact Nat.ne_of_lt (blk_lt (g := gb195) (o := .cells #[.int .i64 a1_0, .int .i64 a1_1, .int .i64 a1_2] 23 (0, 0)) (Xmv.bm BK195.out)) : gb195 ≠ gb219)); have n15_ := Aside0.mk ((by rw [hg]; exact Nat.ne_of_gt (blk_lt (g := gb195) (o := .cells #[.int .i64 a1_0, .int .i64 a1_1, .int .i64 a1_2] 23 (0, 0)) (Xmv.bm BK195.out)) : gb219 ≠ gb195)); have n16_ := Aside0.mk ((by rw [hg]; exact Nat.ne_of_lt (blk_lt (g := gb207) (o := .cells #[.slice Ao29 t203.length co29] 45 (0, 0)) (Xmv.bm BK207.out)) : gb207 ≠ gb219)); have n17_ := Aside0.mk ((by rw [hg]; exact Nat.ne_of_gt (blk_lt (g := gb207) (o := .cells #[.slice Ao29 t203.length co29] 45 (0, 0)) (Xmv.bm BK207.out)) : gb219 ≠ gb207)); have n18_ := Aside0.mk ((by rw [hg]; exact Nat.ne_of_lt (blk_lt (g := gb211) (o := .cells #[.slice Ao35 t208.length co35] 45 (0, 0)) (Xmv.bm BK211.out)) : gb211 ≠ gb219)); have n19_ := Aside0.mk ((by rw [hg]; exact Nat.ne_of_gt (blk_lt (g := gb211) (o := .cells #[.slice Ao35 t208.length co35] 45 (0, 0)) (Xmv.bm BK211.out)) : gb219 ≠ gb211)); clear HO199 HO205 HO210 HO217 BK194 BK195 BK207 BK211 HB; have HO199 := n0_; have HO205 := n1_; have HO210 := n2_; have HO217 := n3_; have BK194 := n4_; have BK195 := n5_; have BK207 := n6_; have BK211 := n7_; have HB := n8_; have BK219 := n9_; have GW219 := n10_; have GE219 := n11_; have NB194_219 := n12_; have NB219_194 := n13_; have NB195_219 := n14_; have NB219_195 := n15_; have NB207_219 := n16_; have NB219_207 := n17_; have NB211_219 := n18_; have NB219_211 := n19_; clear n0_ n1_ n2_ n3_ n4_ n5_ n6_ n7_ n8_ n9_ n10_ n11_ n12_ n13_ n14_ n15_ n16_ n17_ n18_ n19_ hb hbox hg
         refine hK.out _ _ ⟨(blk_cell BK211.out 0).trans rfl, (blk_cell BK195.out 0).trans rfl, (blk_cell BK195.out 1).trans rfl, (blk_cell BK195.out 2).trans rfl⟩ (fun hHeld => ?_)
         clear hK K
         refine norm_ (a' := ?_) ?_ ?_
         rotate_left
         · show Act.put _ (some 9) _ = _
           simp only [Act.put, List.setIfInBounds_toArray, List.set_cons_zero, List.set_cons_succ, i64_w, i32_w]
           rfl
         exact norm_ (by simp only [putAll, Act.put, List.setIfInBounds_toArray, List.set_cons_zero, List.set_cons_succ]) (hCont (v216, gb219) _ ⟨hHeld, (by (with_reducible repeat (first | apply Kd.R_alloc | apply Kd.R_drewN | apply Kd.R_drew)); exact Kd.R_mono HO199.out (fun _ hk => ⟨hk.1.1, ⟨hk.1.2, hk.2⟩⟩)), (by (with_reducible repeat (first | apply Kd.R_alloc | apply Kd.R_drewN | apply Kd.R_drew)); exact Kd.R_mono HO205.out (fun _ hk => ⟨hk.1.1, ⟨hk.1.2, hk.2⟩⟩)), (by (with_reducible repeat (first | apply Kd.R_alloc | apply Kd.R_drewN | apply Kd.R_drew)); exact Kd.R_mono HO210.out (fun _ hk => ⟨hk.1.1, ⟨hk.1.2, hk.2⟩⟩)), (by (with_reducible repeat (first | apply Kd.R_alloc | apply Kd.R_drewN | apply Kd.R_drew)); exact Kd.R_mono HO217.out (fun _ hk => ⟨hk.1.1.2, ⟨hk.1.2, hk.2⟩⟩)), (Xmv.bm BK194.out), (Xmv.bm BK195.out), (Xmv.bm BK207.out), (Xmv.bm BK211.out), (Xmv.bm BK219.out), GW219.out, GE219.out, NB194_219.out, NB219_194.out, NB195_219.out, NB219_195.out, NB207_219.out, NB219_207.out, NB211_219.out, NB219_211.out, Xmv.ub⟩)
       · skip
         refine box_step ?hg (N := 9) ?hd (cs := #[.slice none 0 0]) (t := 45) ?hr ?_; (case hd => rfl); (case hg => rfl); (case hr => first | (go_simp; done) | (go_simp; rfl))
         intro gb219 hg w43 hbox hb
         have n0_ := Aside0.mk (Kd.R_below (Xmv.rm HO199.out) hb); have n1_ := Aside0.mk (Kd.R_below (Xmv.rm HO205.out) hb); have n2_ := Aside0.mk (Kd.R_below (Xmv.rm HO210.out) hb); have n3_ := Aside0.mk (blk_below (g := gb194) (o := .cells #[.slice A0_0 l0_0.length c0_0] 40 (0, 0)) (Xmv.bm BK194.out) hb); have n4_ := Aside0.mk (blk_below (g := gb195) (o := .cells #[.int .i64 a1_0, .int .i64 a1_1, .int .i64 a1_2] 23 (0, 0)) (Xmv.bm BK195.out) hb); have n5_ := Aside0.mk (blk_below (g := gb207) (o := .cells #[.slice Ao29 t203.length co29] 45 (0, 0)) (Xmv.bm BK207.out) hb); have n6_ := Aside0.mk (blk_below (g := gb211) (o := .cells #[.slice Ao35 t208.length co35] 45 (0, 0)) (Xmv.bm BK211.out) hb); have n7_ := Aside0.mk (below_step Xmv.ub hb); have n8_ := Aside0.mk (hbox); have n9_ := Aside0.mk ((by rw [hg]; exact (below_size Xmv.ub) : w.heap.size ≤ gb219)); have n10_ := Aside0.mk ((by rw [hg]; exact (below_size Xmv.ub) : w.heap.size ≤ gb219)); have n11_ := Aside0.mk ((by rw [hg]; exact Nat.ne_of_lt (blk_lt (g := gb194) (o := .cells #[.slice A0_0 l0_0.length c0_0] 40 (0, 0)) (Xmv.bm BK194.out)) : gb194 ≠ gb219)); have n12_ := Aside0.mk ((by rw [hg]; exact Nat.ne_of_gt (blk_lt (g := gb194) (o := .cells #[.slice A0_0 l0_0.length c0_0] 40 (0, 0)) (Xmv.bm BK194.out)) : gb219 ≠ gb194)); have n13_ := Aside0.mk ((by rw [hg]; exact Nat.ne_of_lt (blk_lt (g := gb195) (o := .cells #[.int .i64 a1_0, .int .i64 a1_1, .int .i64 a1_2] 23 (0, 0)) (Xmv.bm BK195.out)) : gb195 ≠ gb219)); have n14_ := Aside0.mk ((by rw [hg]; exact Nat.ne_of_gt (blk_lt (g := gb195) (o := .cells #[.int .i64 a1_0, .int .i64 a1_1, .int .i64 a1_2] 23 (0, 0)) (Xmv.bm BK195.out)) : gb219 ≠ gb195)); have n15_ := Aside0.mk ((by rw [hg]; exact Nat.ne_of_lt (blk_lt (g := gb207) (o := .cells #[.slice Ao29 t203.length co29] 45 (0, 0)) (Xmv.bm BK207.out)) : gb207 ≠ gb219)); have n16_ := Aside0.mk ((by rw [hg]; exact Nat.ne_of_gt (blk_lt (g := gb207) (o := .cells #[.slice Ao29 t203.length co29] 45 (0, 0)) (Xmv.bm BK207.out)) : gb219 ≠ gb207)); have n17_ := Aside0.mk ((by rw [hg]; exact Nat.ne_of_lt (blk_lt (g := gb211) (o := .cells #[.slice Ao35 t208.length co35] 45 (0, 0)) (Xmv.bm BK211.out)) : gb211 ≠ gb219)); have n18_ := Aside0.mk ((by rw [hg]; exact Nat.ne_of_gt (blk_lt (g := gb211) (o := .cells #[.slice Ao35 t208.length co35] 45 (0, 0)) (Xmv.bm BK211.out)) : gb219 ≠ gb211)); clear HO199 HO205 HO210 BK194 BK195 BK207 BK211 HB; have HO199 := n0_; have HO205 := n1_; have HO210 := n2_; have BK194 := n3_; have BK195 := n4_; have BK207 := n5_; have BK211 := n6_; have HB := n7_; have BK219 := n8_; have GW219 := n9_; have GE219 := n10_; have NB194_219 := n11_; have NB219_194 := n12_; have NB195_219 := n13_; have NB219_195 := n14_; have NB207_219 := n15_; have NB219_207 := n16_; have NB211_219 := n17_; have NB219_211 := n18_; clear n0_ n1_ n2_ n3_ n4_ n5_ n6_ n7_ n8_ n9_ n10_ n11_ n12_ n13_ n14_ n15_ n16_ n17_ n18_ hb hbox hg
         refine hK.out _ _ ⟨(blk_cell BK211.out 0).trans rfl, (blk_cell BK195.out 0).trans rfl, (blk_cell BK195.out 1).trans rfl, (blk_cell BK195.out 2).trans rfl⟩ (fun hHeld => ?_)
         clear hK K
         refine norm_ (a' := ?_) ?_ ?_
         rotate_left
         · show Act.put _ (some 9) _ = _
           simp only [Act.put, List.setIfInBounds_toArray, List.set_cons_zero, List.set_cons_succ, i64_w, i32_w]
           rfl
         refine one_ (i := 3) (N := some 35) #[true, true, true, true, false, false, false, true, false, false] rfl rfl (one_of HT_.out (by kernel_rfl)) (by decide) (fun K hK => ?_)
         refine goes_ Try.func37 (by kernel_rfl) rfl #[.agg #[.slice Ao35 t208.length co35], .agg #[.int .i64 t212, .int .i64 t213, .int .i64 t214]] (by rfl) rfl rfl (by (try simp only [List.map_toArray, List.map_cons, List.map_nil]); first | done | rfl | (simp only [List.length_drop, List.length_take]; rfl)) ?_
         with_reducible refine (impl_AddClue.calls k _ _ t208 t212 t213 t214 t215 t218 _ ?side1 ?side2 A15.out).mono ?_
         (case side1 => repeat (first | exact (Kd.R_reads' HO210.out).2.2 | (with_reducible refine Kd.C_alloc ?_ _) | (with_reducible refine Kd.C_drewN ?_ _) | (with_reducible refine Kd.C_drew ?_)))
         (case side2 => exact (Kd.R_reads' HO210.out).2.1)
         rintro e w44 ⟨v216, rfl, ho0, hb⟩
         refine ⟨_, rfl, ?_⟩
         have n0_ := Aside0.mk (Kd.R_elder' (Xmv.rm HO199.out) (Kd.R_base ho0) hb); have n1_ := Aside0.mk (Kd.R_elder' (Xmv.rm HO205.out) (Kd.R_base ho0) hb); have n2_ := Aside0.mk (Kd.R_elder' (Xmv.rm HO210.out) (Kd.R_base ho0) hb); have n3_ := Aside0.mk (Kd.R_lower (Kd.R_new' (Kd.R_new' (Kd.R_new' ho0 (Kd.R_lt (Xmv.rm HO199.out))) (Kd.R_lt (Xmv.rm HO205.out))) (Kd.R_lt (Xmv.rm HO210.out))) (below_size Xmv.ub)); have n4_ := Aside0.mk (blk_below (g := gb194) (o := .cells #[.slice A0_0 l0_0.length c0_0] 40 (0, 0)) (Xmv.bm BK194.out) hb); have n5_ := Aside0.mk (blk_below (g := gb195) (o := .cells #[.int .i64 a1_0, .int .i64 a1_1, .int .i64 a1_2] 23 (0, 0)) (Xmv.bm BK195.out) hb); have n6_ := Aside0.mk (blk_below (g := gb207) (o := .cells #[.slice Ao29 t203.length co29] 45 (0, 0)) (Xmv.bm BK207.out) hb); have n7_ := Aside0.mk (blk_below (g := gb211) (o := .cells #[.slice Ao35 t208.length co35] 45 (0, 0)) (Xmv.bm BK211.out) hb); have n8_ := Aside0.mk (blk_below (g := gb219) (o := .cells #[.slice none 0 0] 45 (0, 0)) (Xmv.bm BK219.out) hb); have n9_ := Aside0.mk (below_step Xmv.ub hb); clear HO199 HO205 HO210 BK194 BK195 BK207 BK211 BK219 HB; have HO199 := n0_; have HO205 := n1_; have HO210 := n2_; have HO217 := n3_; have BK194 := n4_; have BK195 := n5_; have BK207 := n6_; have BK211 := n7_; have BK219 := n8_; have HB := n9_; clear n0_ n1_ n2_ n3_ n4_ n5_ n6_ n7_ n8_ n9_; (try clear hb); (try clear hb2); (try clear hk); (try clear hi); (try clear ho0)
         refine hK.out _ _ ⟨(blk_cell BK211.out 0).trans rfl, (blk_cell BK195.out 0).trans rfl, (blk_cell BK195.out 1).trans rfl, (blk_cell BK195.out 2).trans rfl⟩ (fun hHeld => ?_)
         clear hK K
         refine norm_ (a' := ?_) ?_ ?_
         rotate_left
         · show Act.put _ (some 35) _ = _
           simp only [Act.put, List.setIfInBounds_toArray, List.set_cons_zero, List.set_cons_succ, i64_w, i32_w]
           rfl
         refine pure_ (i := 4) (N := some 31) (v := ?_) (a' := ?_) #[true, true, true, true, true, false, false, true, false, false] rfl rfl (any_of HT_.out (by kernel_rfl)) (fun _ _ _ h => h) (Or.inl ⟨by rfl, ?_⟩) ?_ ?_
         rotate_left
         · intro w'
           go_simp
           with_reducible rfl
         rotate_left
         · simp only [Act.put, List.setIfInBounds_toArray, List.set_cons_zero, List.set_cons_succ, i64_w, i32_w]
           rfl
         refine pure_ (i := 5) (N := some 36) (v := ?_) (a' := ?_) #[true, true, true, true, true, true, false, true, false, false] rfl rfl (any_of HT_.out (by kernel_rfl)) (fun _ _ _ h => h) (Or.inl ⟨by rfl, ?_⟩) ?_ ?_
         rotate_left
         · intro w'
           go_simp
           with_reducible rfl
         rotate_left
         · simp only [Act.put, List.setIfInBounds_toArray, List.set_cons_zero, List.set_cons_succ, i64_w, i32_w]
           rfl
         refine pure_ (i := 6) (N := some 37) (v := ?_) (a' := ?_) #[true, true, true, true, true, true, true, true, false, false] rfl rfl (any_of HT_.out (by kernel_rfl)) (fun _ _ _ h => h) (Or.inl ⟨by rfl, ?_⟩) ?_ ?_
         rotate_left
         · intro w'
           go_simp
           with_reducible rfl
         rotate_left
         · simp only [Act.put, List.setIfInBounds_toArray, List.set_cons_zero, List.set_cons_succ, i64_w, i32_w]
           rfl
         exact norm_ (by simp only [putAll, Act.put, List.setIfInBounds_toArray, List.set_cons_zero, List.set_cons_succ]) (hCont (v216, gb219) _ ⟨hHeld, (by (with_reducible repeat (first | apply Kd.R_alloc | apply Kd.R_drewN | apply Kd.R_drew)); exact Kd.R_mono HO199.out (fun _ hk => ⟨hk.1.1, ⟨hk.1.2, hk.2⟩⟩)), (by (with_reducible repeat (first | apply Kd.R_alloc | apply Kd.R_drewN | apply Kd.R_drew)); exact Kd.R_mono HO205.out (fun _ hk => ⟨hk.1.1, ⟨hk.1.2, hk.2⟩⟩)), (by (with_reducible repeat (first | apply Kd.R_alloc | apply Kd.R_drewN | apply Kd.R_drew)); exact Kd.R_mono HO210.out (fun _ hk => ⟨hk.1.1, ⟨hk.1.2, hk.2⟩⟩)), (by (with_reducible repeat (first | apply Kd.R_alloc | apply Kd.R_drewN | apply Kd.R_drew)); exact Kd.R_mono HO217.out (fun _ hk => ⟨hk.1.1.2, ⟨hk.1.2, hk.2⟩⟩)), (Xmv.bm BK194.out), (Xmv.bm BK195.out), (Xmv.bm BK207.out), (Xmv.bm BK211.out), (Xmv.bm BK219.out), GW219.out, GE219.out, NB194_219.out, NB219_194.out, NB195_219.out, NB219_195.out, NB207_219.out, NB219_207.out, NB211_219.out, NB219_211.out, Xmv.ub⟩)
     · skip
       refine box_step ?hg (N := 9) ?hd (cs := #[.slice none 0 0]) (t := 45) ?hr ?_; (case hd => rfl); (case hg => rfl); (case hr => first | (go_simp; done) | (go_simp; rfl))
       intro gb219 hg w42 hbox hb
       have n0_ := Aside0.mk (Kd.R_below (Xmv.rm HO199.out) hb); have n1_ := Aside0.mk (Kd.R_below (Xmv.rm HO205.out) hb); have n2_ := Aside0.mk (Kd.R_below (Xmv.rm HO210.out) hb); have n3_ := Aside0.mk (blk_below (g := gb194) (o := .cells #[.slice A0_0 l0_0.length c0_0] 40 (0, 0)) (Xmv.bm BK194.out) hb); have n4_ := Aside0.mk (blk_below (g := gb195) (o := .cells #[.int .i64 a1_0, .int .i64 a1_1, .int .i64 a1_2] 23 (0, 0)) (Xmv.bm BK195.out) hb); have n5_ := Aside0.mk (blk_below (g := gb207) (o := .cells #[.slice Ao29 t203.length co29] 45 (0, 0)) (Xmv.bm BK207.out) hb); have n6_ := Aside0.mk (blk_below (g := gb211) (o := .cells #[.slice Ao35 t208.length co35] 45 (0, 0)) (Xmv.bm BK211.out) hb); have n7_ := Aside0.mk (below_step Xmv.ub hb); have n8_ := Aside0.mk (hbox); have n9_ := Aside0.mk ((by rw [hg]; exact (below_size Xmv.ub) : w.heap.size ≤ gb219)); have n10_ := Aside0.mk ((by rw [hg]; exact (below_size Xmv.ub) : w.heap.size ≤ gb219)); have n11_ := Aside0.mk ((by rw [hg]; exact Nat.ne_of_lt (blk_lt (g := gb194) (o := .cells #[.slice A0_0 l0_0.length c0_0] 40 (0, 0)) (Xmv.bm BK194.out)) : gb194 ≠ gb219)); have n12_ := Aside0.mk ((by rw [hg]; exact Nat.ne_of_gt (blk_lt (g := gb194) (o := .cells #[.slice A0_0 l0_0.length c0_0] 40 (0, 0)) (Xmv.bm BK194.out)) : gb219 ≠ gb194)); have n13_ := Aside0.mk ((by rw [hg]; exact Nat.ne_of_lt (blk_lt (g := gb195) (o := .cells #[.int .i64 a1_0, .int .i64 a1_1, .int .i64 a1_2] 23 (0, 0)) (Xmv.bm BK195.out)) : gb195 ≠ gb219)); have n14_ := Aside0.mk ((by rw [hg]; exact Nat.ne_of_gt (blk_lt (g := gb195) (o := .cells #[.int .i64 a1_0, .int .i64 a1_1, .int .i64 a1_2] 23 (0, 0)) (Xmv.bm BK195.out)) : gb219 ≠ gb195)); have n15_ := Aside0.mk ((by rw [hg]; exact Nat.ne_of_lt (blk_lt (g := gb207) (o := .cells #[.slice Ao29 t203.length co29] 45 (0, 0)) (Xmv.bm BK207.out)) : gb207 ≠ gb219)); have n16_ := Aside0.mk ((by rw [hg]; exact Nat.ne_of_gt (blk_lt (g := gb207) (o := .cells #[.slice Ao29 t203.length co29] 45 (0, 0)) (Xmv.bm BK207.out)) : gb219 ≠ gb207)); have n17_ := Aside0.mk ((by rw [hg]; exact Nat.ne_of_lt (blk_lt (g := gb211) (o := .cells #[.slice Ao35 t208.length co35] 45 (0, 0)) (Xmv.bm BK211.out)) : gb211 ≠ gb219)); have n18_ := Aside0.mk ((by rw [hg]; exact Nat.ne_of_gt (blk_lt (g := gb211) (o := .cells #[.slice Ao35 t208.length co35] 45 (0, 0)) (Xmv.bm BK211.out)) : gb219 ≠ gb211)); clear HO199 HO205 HO210 BK194 BK195 BK207 BK211 HB; have HO199 := n0_; have HO205 := n1_; have HO210 := n2_; have BK194 := n3_; have BK195 := n4_; have BK207 := n5_; have BK211 := n6_; have HB := n7_; have BK219 := n8_; have GW219 := n9_; have GE219 := n10_; have NB194_219 := n11_; have NB219_194 := n12_; have NB195_219 := n13_; have NB219_195 := n14_; have NB207_219 := n15_; have NB219_207 := n16_; have NB211_219 := n17_; have NB219_211 := n18_; clear n0_ n1_ n2_ n3_ n4_ n5_ n6_ n7_ n8_ n9_ n10_ n11_ n12_ n13_ n14_ n15_ n16_ n17_ n18_ hb hbox hg
       refine hK.out _ _ ⟨(blk_cell BK211.out 0).trans rfl, (blk_cell BK195.out 0).trans rfl, (blk_cell BK195.out 1).trans rfl, (blk_cell BK195.out 2).trans rfl⟩ (fun hHeld => ?_)
       clear hK K
       refine norm_ (a' := ?_) ?_ ?_
       rotate_left
       · show Act.put _ (some 9) _ = _
         simp only [Act.put, List.setIfInBounds_toArray, List.set_cons_zero, List.set_cons_succ, i64_w, i32_w]
         rfl
       refine one_ (i := 2) (N := some 34) #[true, true, true, false, false, false, false, true, false, false] rfl rfl (one_of HT_.out (by kernel_rfl)) (by decide) (fun K hK => ?_)
       refine goes_ Try.func16 (by kernel_rfl) rfl #[.agg #[.int .i64 a1_0, .int .i64 a1_1, .int .i64 a1_2]] (by rfl) rfl rfl (by (try simp only [List.map_toArray, List.map_cons, List.map_nil]); first | done | rfl | (simp only [List.length_drop, List.length_take]; rfl)) ?_
       with_reducible refine (laws_toClue.calls a1_0 a1_1 a1_2 t212 t213 t214 _ A14.out).mono ?_
       rintro e w43 ⟨rfl, hb⟩
       refine ⟨_, rfl, ?_⟩
       have n0_ := Aside0.mk (Kd.R_below (Xmv.rm HO199.out) hb); have n1_ := Aside0.mk (Kd.R_below (Xmv.rm HO205.out) hb); have n2_ := Aside0.mk (Kd.R_below (Xmv.rm HO210.out) hb); have n3_ := Aside0.mk (blk_below (g := gb194) (o := .cells #[.slice A0_0 l0_0.length c0_0] 40 (0, 0)) (Xmv.bm BK194.out) hb); have n4_ := Aside0.mk (blk_below (g := gb195) (o := .cells #[.int .i64 a1_0, .int .i64 a1_1, .int .i64 a1_2] 23 (0, 0)) (Xmv.bm BK195.out) hb); have n5_ := Aside0.mk (blk_below (g := gb207) (o := .cells #[.slice Ao29 t203.length co29] 45 (0, 0)) (Xmv.bm BK207.out) hb); have n6_ := Aside0.mk (blk_below (g := gb211) (o := .cells #[.slice Ao35 t208.length co35] 45 (0, 0)) (Xmv.bm BK211.out) hb); have n7_ := Aside0.mk (blk_below (g := gb219) (o := .cells #[.slice none 0 0] 45 (0, 0)) (Xmv.bm BK219.out) hb); have n8_ := Aside0.mk (below_step Xmv.ub hb); clear HO199 HO205 HO210 BK194 BK195 BK207 BK211 BK219 HB; have HO199 := n0_; have HO205 := n1_; have HO210 := n2_; have BK194 := n3_; have BK195 := n4_; have BK207 := n5_; have BK211 := n6_; have BK219 := n7_; have HB := n8_; clear n0_ n1_ n2_ n3_ n4_ n5_ n6_ n7_ n8_; (try clear hb); (try clear hb2); (try clear hk); (try clear hi)
       refine hK.out _ _ ⟨(blk_cell BK211.out 0).trans rfl, (blk_cell BK195.out 0).trans rfl, (blk_cell BK195.out 1).trans rfl, (blk_cell BK195.out 2).trans rfl⟩ (fun hHeld => ?_)
       clear hK K
       refine norm_ (a' := ?_) ?_ ?_
       rotate_left
       · show Act.put _ (some 34) _ = _
         simp only [Act.put, List.setIfInBounds_toArray, List.set_cons_zero, List.set_cons_succ, i64_w, i32_w]
         rfl
       refine one_ (i := 3) (N := some 35) #[true, true, true, true, false, false, false, true, false, false] rfl rfl (one_of HT_.out (by kernel_rfl)) (by decide) (fun K hK => ?_)
       refine goes_ Try.func37 (by kernel_rfl) rfl #[.agg #[.slice Ao35 t208.length co35], .agg #[.int .i64 t212, .int .i64 t213, .int .i64 t214]] (by rfl) rfl rfl (by (try simp only [List.map_toArray, List.map_cons, List.map_nil]); first | done | rfl | (simp only [List.length_drop, List.length_take]; rfl)) ?_
       with_reducible refine (impl_AddClue.calls k _ _ t208 t212 t213 t214 t215 t218 _ ?side1 ?side2 A15.out).mono ?_
       (case side1 => repeat (first | exact (Kd.R_reads' HO210.out).2.2 | (with_reducible refine Kd.C_alloc ?_ _) | (with_reducible refine Kd.C_drewN ?_ _) | (with_reducible refine Kd.C_drew ?_)))
       (case side2 => exact (Kd.R_reads' HO210.out).2.1)
       rintro e w44 ⟨v216, rfl, ho0, hb⟩
       refine ⟨_, rfl, ?_⟩
       have n0_ := Aside0.mk (Kd.R_elder' (Xmv.rm HO199.out) (Kd.R_base ho0) hb); have n1_ := Aside0.mk (Kd.R_elder' (Xmv.rm HO205.out) (Kd.R_base ho0) hb); have n2_ := Aside0.mk (Kd.R_elder' (Xmv.rm HO210.out) (Kd.R_base ho0) hb); have n3_ := Aside0.mk (Kd.R_lower (Kd.R_new' (Kd.R_new' (Kd.R_new' ho0 (Kd.R_lt (Xmv.rm HO199.out))) (Kd.R_lt (Xmv.rm HO205.out))) (Kd.R_lt (Xmv.rm HO210.out))) (below_size Xmv.ub)); have n4_ := Aside0.mk (blk_below (g := gb194) (o := .cells #[.slice A0_0 l0_0.length c0_0] 40 (0, 0)) (Xmv.bm BK194.out) hb); have n5_ := Aside0.mk (blk_below (g := gb195) (o := .cells #[.int .i64 a1_0, .int .i64 a1_1, .int .i64 a1_2] 23 (0, 0)) (Xmv.bm BK195.out) hb); have n6_ := Aside0.mk (blk_below (g := gb207) (o := .cells #[.slice Ao29 t203.length co29] 45 (0, 0)) (Xmv.bm BK207.out) hb); have n7_ := Aside0.mk (blk_below (g := gb211) (o := .cells #[.slice Ao35 t208.length co35] 45 (0, 0)) (Xmv.bm BK211.out) hb); have n8_ := Aside0.mk (blk_below (g := gb219) (o := .cells #[.slice none 0 0] 45 (0, 0)) (Xmv.bm BK219.out) hb); have n9_ := Aside0.mk (below_step Xmv.ub hb); clear HO199 HO205 HO210 BK194 BK195 BK207 BK211 BK219 HB; have HO199 := n0_; have HO205 := n1_; have HO210 := n2_; have HO217 := n3_; have BK194 := n4_; have BK195 := n5_; have BK207 := n6_; have BK211 := n7_; have BK219 := n8_; have HB := n9_; clear n0_ n1_ n2_ n3_ n4_ n5_ n6_ n7_ n8_ n9_; (try clear hb); (try clear hb2); (try clear hk); (try clear hi); (try clear ho0)
       refine hK.out _ _ ⟨(blk_cell BK211.out 0).trans rfl, (blk_cell BK195.out 0).trans rfl, (blk_cell BK195.out 1).trans rfl, (blk_cell BK195.out 2).trans rfl⟩ (fun hHeld => ?_)
       clear hK K
       refine norm_ (a' := ?_) ?_ ?_
       rotate_left
       · show Act.put _ (some 35) _ = _
         simp only [Act.put, List.setIfInBounds_toArray, List.set_cons_zero, List.set_cons_succ, i64_w, i32_w]
         rfl
       refine pure_ (i := 4) (N := some 31) (v := ?_) (a' := ?_) #[true, true, true, true, true, false, false, true, false, false] rfl rfl (any_of HT_.out (by kernel_rfl)) (fun _ _ _ h => h) (Or.inl ⟨by rfl, ?_⟩) ?_ ?_
       rotate_left
       · intro w'
         go_simp
         with_reducible rfl
       rotate_left
       · simp only [Act.put, List.setIfInBounds_toArray, List.set_cons_zero, List.set_cons_succ, i64_w, i32_w]
         rfl
       refine pure_ (i := 5) (N := some 36) (v := ?_) (a' := ?_) #[true, true, true, true, true, true, false, true, false, false] rfl rfl (any_of HT_.out (by kernel_rfl)) (fun _ _ _ h => h) (Or.inl ⟨by rfl, ?_⟩) ?_ ?_
       rotate_left
       · intro w'
         go_simp
         with_reducible rfl
       rotate_left
       · simp only [Act.put, List.setIfInBounds_toArray, List.set_cons_zero, List.set_cons_succ, i64_w, i32_w]
         rfl
       refine pure_ (i := 6) (N := some 37) (v := ?_) (a' := ?_) #[true, true, true, true, true, true, true, true, false, false] rfl rfl (any_of HT_.out (by kernel_rfl)) (fun _ _ _ h => h) (Or.inl ⟨by rfl, ?_⟩) ?_ ?_
       rotate_left
       · intro w'
         go_simp
         with_reducible rfl
       rotate_left
       · simp only [Act.put, List.setIfInBounds_toArray, List.set_cons_zero, List.set_cons_succ, i64_w, i32_w]
         rfl
       exact norm_ (by simp only [putAll, Act.put, List.setIfInBounds_toArray, List.set_cons_zero, List.set_cons_succ]) (hCont (v216, gb219) _ ⟨hHeld, (by (with_reducible repeat (first | apply Kd.R_alloc | apply Kd.R_drewN | apply Kd.R_drew)); exact Kd.R_mono HO199.out (fun _ hk => ⟨hk.1.1, ⟨hk.1.2, hk.2⟩⟩)), (by (with_reducible repeat (first | apply Kd.R_alloc | apply Kd.R_drewN | apply Kd.R_drew)); exact Kd.R_mono HO205.out (fun _ hk => ⟨hk.1.1, ⟨hk.1.2, hk.2⟩⟩)), (by (with_reducible repeat (first | apply Kd.R_alloc | apply Kd.R_drewN | apply Kd.R_drew)); exact Kd.R_mono HO210.out (fun _ hk => ⟨hk.1.1, ⟨hk.1.2, hk.2⟩⟩)), (by (with_reducible repeat (first | apply Kd.R_alloc | apply Kd.R_drewN | apply Kd.R_drew)); exact Kd.R_mono HO217.out (fun _ hk => ⟨hk.1.1.2, ⟨hk.1.2, hk.2⟩⟩)), (Xmv.bm BK194.out), (Xmv.bm BK195.out), (Xmv.bm BK207.out), (Xmv.bm BK211.out), (Xmv.bm BK219.out), GW219.out, GE219.out, NB194_219.out, NB219_194.out, NB195_219.out, NB219_195.out, NB207_219.out, NB219_207.out, NB211_219.out, NB219_211.out, Xmv.ub⟩)
   rintro ⟨v216, gb219⟩ w45 ⟨hS_, h0_, h1_, h2_, h3_, h4_, h5_, h6_, h7_, h8_, h9_, h10_, h11_, h12_, h13_, h14_, h15_, h16_, h17_, h18_, h19_⟩
   have n0_ : Aside0 (Kd.R k25 25 w45 w.heap.size (fun k_ => some k_ ≠ (.slice Ao29 t203.length co29 : Value).ownBlock ∧ some k_ ≠ (.slice Ao35 t208.length co35 : Value).ownBlock ∧ some k_ ≠ (v216 : Value).ownBlock) v198 t197) := ⟨h0_⟩
   have n1_ : Aside0 (Kd.R k25 25 w45 w.heap.size (fun k_ => some k_ ≠ (v198 : Value).ownBlock ∧ some k_ ≠ (.slice Ao35 t208.length co35 : Value).ownBlock ∧ some k_ ≠ (v216 : Value).ownBlock) (.slice Ao29 t203.length co29) t203) := ⟨h1_⟩
   have n2_ : Aside0 (Kd.R k25 25 w45 w.heap.size (fun k_ => some k_ ≠ (v198 : Value).ownBlock ∧ some k_ ≠ (.slice Ao29 t203.length co29 : Value).ownBlock ∧ some k_ ≠ (v216 : Value).ownBlock) (.slice Ao35 t208.length co35) t208) := ⟨h2_⟩
   have n3_ : Aside0 (Kd.R k25 25 w45 w.heap.size (fun k_ => some k_ ≠ (v198 : Value).ownBlock ∧ some k_ ≠ (.slice Ao29 t203.length co29 : Value).ownBlock ∧ some k_ ≠ (.slice Ao35 t208.length co35 : Value).ownBlock) v216 t215) := ⟨h3_⟩
   have n4_ : Aside0 (w45.heap[gb194]? = some (.cells #[.slice A0_0 l0_0.length c0_0] 40 (0, 0))) := ⟨h4_⟩
   have n5_ : Aside0 (w45.heap[gb195]? = some (.cells #[.int .i64 a1_0, .int .i64 a1_1, .int .i64 a1_2] 23 (0, 0))) := ⟨h5_⟩
   have n6_ : Aside0 (w45.heap[gb207]? = some (.cells #[.slice Ao29 t203.length co29] 45 (0, 0))) := ⟨h6_⟩
   have n7_ : Aside0 (w45.heap[gb211]? = some (.cells #[.slice Ao35 t208.length co35] 45 (0, 0))) := ⟨h7_⟩
   have n8_ : Aside0 (w45.heap[gb219]? = some (.cells #[.slice none 0 0] 45 (0, 0))) := ⟨h8_⟩
   have n9_ : Aside0 (w.heap.size ≤ gb219) := ⟨h9_⟩
   have n10_ : Aside0 (w.heap.size ≤ gb219) := ⟨h10_⟩
   have n11_ : Aside0 (gb194 ≠ gb219) := ⟨h11_⟩
   have n12_ : Aside0 (gb219 ≠ gb194) := ⟨h12_⟩
   have n13_ : Aside0 (gb195 ≠ gb219) := ⟨h13_⟩
   have n14_ : Aside0 (gb219 ≠ gb195) := ⟨h14_⟩
   have n15_ : Aside0 (gb207 ≠ gb219) := ⟨h15_⟩
   have n16_ : Aside0 (gb219 ≠ gb207) := ⟨h16_⟩
   have n17_ : Aside0 (gb211 ≠ gb219) := ⟨h17_⟩
   have n18_ : Aside0 (gb219 ≠ gb211) := ⟨h18_⟩
   have n19_ : Aside0 (Below w.heap.size w w45) := ⟨h19_⟩
   clear HO199; clear HO205 HO210 BK194 BK195 BK207 BK211 HB h0_ h1_ h2_ h3_ h4_ h5_ h6_ h7_ h8_ h9_ h10_ h11_ h12_ h13_ h14_ h15_ h16_ h17_ h18_ h19_; have HO199 := n0_; have HO205 := n1_; have HO210 := n2_; have HO217 := n3_; have BK194 := n4_; have BK195 := n5_; have BK207 := n6_; have BK211 := n7_; have BK219 := n8_; have GW219 := n9_; have GE219 := n10_; have NB194_219 := n11_; have NB219_194 := n12_; have NB195_219 := n13_; have NB219_195 := n14_; have NB207_219 := n15_; have NB219_207 := n16_; have NB211_219 := n17_; have NB219_211 := n18_; have HB := n19_; clear n0_ n1_ n2_ n3_ n4_ n5_ n6_ n7_ n8_ n9_ n10_ n11_ n12_ n13_ n14_ n15_ n16_ n17_ n18_ n19_
   have hHeld : w45.cell? ⟨gb211, 0, none⟩ = some (.slice Ao35 t208.length co35) ∧ w45.cell? ⟨gb195, 0, none⟩ = some (.int .i64 a1_0) ∧ w45.cell? ⟨gb195, 1, none⟩ = some (.int .i64 a1_1) ∧ w45.cell? ⟨gb195, 2, none⟩ = some (.int .i64 a1_2) := hS_
   obtain ⟨Ao46, co46, eo46⟩ := Kd.R_slice HO217.out
   (first | subst eo46 | (injection eo46 with f1_ f2_ f3_; have f4_ := f1_.symm; have f5_ := f3_.symm; clear f1_ f2_ f3_; subst f4_; subst f5_))
   refine norm_ (a' := ?_) ?_ ?_
   rotate_left
   · simp only [putAll, Act.put, List.setIfInBounds_toArray, List.set_cons_zero, List.set_cons_succ]
     rfl
   refine one_ (i := 8) (N := none) #[true, true, true, true, true, true, true, true, true, false] rfl rfl (one_of HT_.out (by kernel_rfl)) (by decide) (fun K hK => ?_)
   have hs47 : w45.cell? ⟨gb219, 0, none⟩ = some (.slice none 0 0) := (blk_cell BK219.out 0).trans rfl
   have hfs47 := blk_frozen BK219.out 0
   have hns47_0 := NB194_219.out
   have hns47_1 := NB195_219.out
   have hns47_2 := NB207_219.out
   have hns47_3 := NB211_219.out
   have hms47_0 := NB219_194.out
   have hms47_1 := NB219_195.out
   have hms47_2 := NB219_207.out
   have hms47_3 := NB219_211.out
   refine skip_ (w1 := ?_) (by rfl) rfl ?_ ?_
   rotate_left
   · go_simp
     rfl
   refine hK.out _ _ ⟨((cell_far (p := ⟨gb219, _, none⟩) NB211_219.out _).trans (hHeld.1)), ((cell_far (p := ⟨gb219, _, none⟩) NB195_219.out _).trans (hHeld.2.1)), ((cell_far (p := ⟨gb219, _, none⟩) NB195_219.out _).trans (hHeld.2.2.1)), ((cell_far (p := ⟨gb219, _, none⟩) NB195_219.out _).trans (hHeld.2.2.2))⟩ (fun hHeld => ?_)
   clear hK K
   refine pure_ (i := 9) (N := some 10) (v := ?_) (a' := ?_) #[true, true, true, true, true, true, true, true, true, true] rfl rfl (any_of HT_.out (by kernel_rfl)) (fun _ _ _ h => h) (Or.inl ⟨by rfl, ?_⟩) ?_ ?_
   rotate_left
   · intro w'
     go_simp
     with_reducible rfl
   rotate_left
   · simp only [Act.put, List.setIfInBounds_toArray, List.set_cons_zero, List.set_cons_succ, i64_w, i32_w]
     rfl
   refine done_ (done_of HT_.out (by kernel_rfl)) ?_
   go_upto_region 8 with (fail)
   go_cut [46] (fun v46 wc => ∃ (kq : Nat) (x46_15 : Bool), v46 = .bool x46_15 ∧ Aside0 (laws_FnExactAddClue.j0 kq t206 t218 x46_15 l0_0 a1_0 a1_1 a1_2 t203 t208 t215 = some r) ∧ Aside0 (kq ≤ k) ∧ Aside0 (Kd.R k25 25 wc w.heap.size (fun k_ => some k_ ≠ ((.slice Ao35 t208.length co35) : Value).ownBlock ∧ some k_ ≠ ((.slice Ao46 t215.length co46) : Value).ownBlock) (.slice Ao29 t203.length co29) t203) ∧ Aside0 (Kd.R k25 25 wc w.heap.size (fun k_ => some k_ ≠ ((.slice Ao29 t203.length co29) : Value).ownBlock ∧ some k_ ≠ ((.slice Ao46 t215.length co46) : Value).ownBlock) (.slice Ao35 t208.length co35) t208) ∧ Aside0 (Kd.R k25 25 wc w.heap.size (fun k_ => some k_ ≠ ((.slice Ao29 t203.length co29) : Value).ownBlock ∧ some k_ ≠ ((.slice Ao35 t208.length co35) : Value).ownBlock) (.slice Ao46 t215.length co46) t215) ∧ Aside0 (wc.heap[gb194]? = some (.cells #[(.slice A0_0 l0_0.length c0_0)] 40 (0, 0))) ∧ Aside0 (wc.heap[gb195]? = some (.cells #[.int .i64 a1_0, .int .i64 a1_1, .int .i64 a1_2] 23 (0, 0))) ∧ Aside0 (wc.heap[gb207]? = some (.cells #[(.slice Ao29 t203.length co29)] 45 (0, 0))) ∧ Aside0 (wc.heap[gb211]? = some (.cells #[(.slice Ao35 t208.length co35)] 45 (0, 0))) ∧ Aside0 (wc.heap[gb219]? = some (.cells #[(.slice Ao46 t215.length co46)] 45 (0, 0))) ∧ Aside0 (Below w.heap.size w wc))
   case first =>
    have H := HC16.out
    clear HC16
    replace H := Option.bind_eq_some_iff.mp H
    obtain ⟨t220, A480, H⟩ := H
    replace H : (if t220 = true then (laws_FnExactAddClue.j0 k t206 t218 (t218 != t206) l0_0 a1_0 a1_1 a1_2 t203 t208 t215) else (laws_FnExactAddClue.j0 k t206 t218 true l0_0 a1_0 a1_1 a1_2 t203 t208 t215)) = some r := H
    have A48 := Aside0.mk A480
    clear A480
    by_cases c49 : t220 = true
    · subst c49
      have H1 : (laws_FnExactAddClue.j0 k t206 t218 (t218 != t206) l0_0 a1_0 a1_1 a1_2 t203 t208 t215) = some r := by rw [if_pos rfl] at H; exact H
      clear H
      have H := H1
      clear H1
      have H' := Aside0.mk H
      clear H
      have hnb50 := NB219_194.out
      have hnc50 := NB194_219.out
      have hnb51 := NB219_195.out
      have hnc51 := NB195_219.out
      have hnb52 := NB219_207.out
      have hnc52 := NB207_219.out
      have hnb53 := NB219_211.out
      have hnc53 := NB211_219.out
      have hcz54_0 : w45.cell? ⟨gb219, 0, none⟩ = some (.slice none 0 0) := (blk_cell BK219.out 0).trans rfl
      have hfz54_0 := blk_frozen BK219.out 0
      have hnb55 := NB207_194.out
      have hnc55 := NB194_207.out
      have hnb56 := NB207_195.out
      have hnc56 := NB195_207.out
      have hnb57 := NB207_211.out
      have hnc57 := NB211_207.out
      have hcz58_0 : w45.cell? ⟨gb207, 0, none⟩ = some (.slice Ao29 t203.length co29) := (blk_cell BK207.out 0).trans rfl
      have hfz58_0 := blk_frozen BK207.out 0
      go_wp2_with (first | ((with_reducible refine gate_callee (f := 31) rfl ?_); refine goesL_ (some 40) rfl rfl Try.func31 (by kernel_rfl) rfl #[.agg #[.slice Ao46 t215.length co46], .agg #[.slice Ao29 t203.length co29]] rfl (by (try simp only [List.map_toArray, List.map_cons, List.map_nil]); first | done | rfl | (simp only [List.length_drop, List.length_take]; rfl)) ?_; (with_reducible refine (laws_eqPuzzle.calls k _ _ t215 _ _ t203 true _ ?side1 ?side2 ?side3 ?side4 A48.out).mono ?_); (case side1 => refine (Kd.R_reads' (e := 25) (base := w.heap.size) (ok := fun k_ => (some k_ ≠ (v198 : Value).ownBlock ∧ (some k_ ≠ (.slice Ao29 t203.length co29 : Value).ownBlock ∧ some k_ ≠ (.slice Ao35 t208.length co35 : Value).ownBlock))) (n := t215.length) (c := co46) ?_).2.2; exact (by (with_reducible repeat (first | apply Kd.R_alloc | apply Kd.R_drewN | apply Kd.R_drew)); exact (Kd.R_mono (Kd.R_far (p := ⟨gb219, 0, none⟩) (Kd.R_types HO217.out BK219.out (by decide)) (fun _ hk => hk.2) (.slice Ao46 t215.length co46)) (fun _ h_ => h_.1)))); (case side2 => exact (Kd.R_reads' HO217.out).2.1); (case side3 => refine (Kd.R_reads' (e := 25) (base := w.heap.size) (ok := fun k_ => (some k_ ≠ (v198 : Value).ownBlock ∧ (some k_ ≠ (.slice Ao35 t208.length co35 : Value).ownBlock ∧ some k_ ≠ (.slice Ao46 t215.length co46 : Value).ownBlock))) (n := t203.length) (c := co29) ?_).2.2; exact (by (with_reducible repeat (first | apply Kd.R_alloc | apply Kd.R_drewN | apply Kd.R_drew)); exact (Kd.R_mono (Kd.R_far (p := ⟨gb219, 0, none⟩) (Kd.R_types HO205.out BK219.out (by decide)) (fun _ hk => hk.2) (.slice Ao46 t215.length co46)) (fun _ h_ => h_.1)))); (case side4 => exact (Kd.R_reads' HO205.out).2.1); rintro e w59 ⟨rfl, hb⟩; refine ⟨_, rfl, ?_⟩; have n0_ := Aside0.mk (Kd.R_below (by (with_reducible repeat (first | apply Kd.R_alloc | apply Kd.R_drewN | apply Kd.R_drew)); exact (Kd.R_mono (Kd.R_far (p := ⟨gb219, 0, none⟩) (Kd.R_types HO199.out BK219.out (by decide)) (fun _ hk => hk.2) (.slice Ao46 t215.length co46)) (fun _ h_ => h_.1))) hb); have n1_ := Aside0.mk (Kd.R_below (by (with_reducible repeat (first | apply Kd.R_alloc | apply Kd.R_drewN | apply Kd.R_drew)); exact (Kd.R_mono (Kd.R_far (p := ⟨gb219, 0, none⟩) (Kd.R_types HO205.out BK219.out (by decide)) (fun _ hk => hk.2) (.slice Ao46 t215.length co46)) (fun _ h_ => h_.1))) hb); have n2_ := Aside0.mk (Kd.R_below (by (with_reducible repeat (first | apply Kd.R_alloc | apply Kd.R_drewN | apply Kd.R_drew)); exact (Kd.R_mono (Kd.R_far (p := ⟨gb219, 0, none⟩) (Kd.R_types HO210.out BK219.out (by decide)) (fun _ hk => hk.2) (.slice Ao46 t215.length co46)) (fun _ h_ => h_.1))) hb); have n3_ := Aside0.mk (Kd.R_below (by (with_reducible repeat (first | apply Kd.R_alloc | apply Kd.R_drewN | apply Kd.R_drew)); exact (Kd.R_mono (Kd.R_far (p := ⟨gb219, 0, none⟩) (Kd.R_types HO217.out BK219.out (by decide)) (fun _ hk => hk.2) (.slice Ao46 t215.length co46)) (fun _ h_ => h_.1))) hb); have n4_ := Aside0.mk (blk_below (g := gb194) (o := .cells #[.slice A0_0 l0_0.length c0_0] 40 (0, 0)) (by (with_reducible repeat (first | refine blk_drewN ?_ _ | refine blk_drew ?_ | refine blk_alloc ?_ _)); refine blk_far ?_ NB194_219.out _; (with_reducible repeat (first | refine blk_drewN ?_ _ | refine blk_drew ?_ | refine blk_alloc ?_ _)); exact BK194.out) hb); have n5_ := Aside0.mk (blk_below (g := gb195) (o := .cells #[.int .i64 a1_0, .int .i64 a1_1, .int .i64 a1_2] 23 (0, 0)) (by (with_reducible repeat (first | refine blk_drewN ?_ _ | refine blk_drew ?_ | refine blk_alloc ?_ _)); refine blk_far ?_ NB195_219.out _; (with_reducible repeat (first | refine blk_drewN ?_ _ | refine blk_drew ?_ | refine blk_alloc ?_ _)); exact BK195.out) hb); have n6_ := Aside0.mk (blk_below (g := gb207) (o := .cells #[.slice Ao29 t203.length co29] 45 (0, 0)) (by (with_reducible repeat (first | refine blk_drewN ?_ _ | refine blk_drew ?_ | refine blk_alloc ?_ _)); refine blk_far ?_ NB207_219.out _; (with_reducible repeat (first | refine blk_drewN ?_ _ | refine blk_drew ?_ | refine blk_alloc ?_ _)); exact BK207.out) hb); have n7_ := Aside0.mk (blk_below (g := gb211) (o := .cells #[.slice Ao35 t208.length co35] 45 (0, 0)) (by (with_reducible repeat (first | refine blk_drewN ?_ _ | refine blk_drew ?_ | refine blk_alloc ?_ _)); refine blk_far ?_ NB211_219.out _; (with_reducible repeat (first | refine blk_drewN ?_ _ | refine blk_drew ?_ | refine blk_alloc ?_ _)); exact BK211.out) hb); have n8_ := Aside0.mk (blk_below (g := gb219) (o := .cells #[.slice Ao46 t215.length co46] 45 (0, 0)) (by (with_reducible repeat (first | refine blk_drewN ?_ _ | refine blk_drew ?_ | refine blk_alloc ?_ _)); refine blk_put (cs := #[.slice none 0 0]) ?_ 0 _ rfl; (with_reducible repeat (first | refine blk_drewN ?_ _ | refine blk_drew ?_ | refine blk_alloc ?_ _)); exact BK219.out) hb); have n9_ := Aside0.mk (below_step Xmv.ub hb); clear HO199; clear HO205; clear HO210; clear HO217; clear BK194; clear BK195; clear BK207; clear BK211; clear BK219; clear HB; have HO199 := n0_; have HO205 := n1_; have HO210 := n2_; have HO217 := n3_; have BK194 := n4_; have BK195 := n5_; have BK207 := n6_; have BK211 := n7_; have BK219 := n8_; have HB := n9_; clear n0_ n1_ n2_ n3_ n4_ n5_ n6_ n7_ n8_ n9_; (try clear hb); (try clear hb2); (try clear hk); (try clear hi)))
      go_meet
      case rel => exact ⟨_, ((t218 != t206)), (by first | rfl | (simp; done) | (simp [*]; done)), H', ⟨by first | omega | exact Nat.le_refl _⟩, ⟨by (with_reducible repeat (first | apply Kd.R_alloc | apply Kd.R_drewN | apply Kd.R_drew)); exact Kd.R_mono HO205.out (fun _ hk => ⟨hk.2.1, hk.2.2⟩)⟩, ⟨by (with_reducible repeat (first | apply Kd.R_alloc | apply Kd.R_drewN | apply Kd.R_drew)); exact Kd.R_mono HO210.out (fun _ hk => ⟨hk.2.1, hk.2.2⟩)⟩, ⟨by (with_reducible repeat (first | apply Kd.R_alloc | apply Kd.R_drewN | apply Kd.R_drew)); exact Kd.R_mono HO217.out (fun _ hk => ⟨hk.2.1, hk.2.2⟩)⟩, ⟨by (with_reducible repeat (first | refine blk_drewN ?_ _ | refine blk_drew ?_ | refine blk_alloc ?_ _)); exact BK194.out⟩, ⟨by (with_reducible repeat (first | refine blk_drewN ?_ _ | refine blk_drew ?_ | refine blk_alloc ?_ _)); exact BK195.out⟩, ⟨by (with_reducible repeat (first | refine blk_drewN ?_ _ | refine blk_drew ?_ | refine blk_alloc ?_ _)); exact BK207.out⟩, ⟨by (with_reducible repeat (first | refine blk_drewN ?_ _ | refine blk_drew ?_ | refine blk_alloc ?_ _)); exact BK211.out⟩, ⟨by (with_reducible repeat (first | refine blk_drewN ?_ _ | refine blk_drew ?_ | refine blk_alloc ?_ _)); exact BK219.out⟩, ⟨by repeat (first | (with_reducible first | exact HB.out | apply below_alloc | apply pw_below_drewN | apply below_drew1 | refine below_set ?_ GE194.out | refine below_set ?_ GE195.out | refine below_set ?_ GE207.out | refine below_set ?_ GE211.out | refine below_set ?_ GE219.out) | exact HB.out)⟩⟩
    · replace c49 := Bool.eq_false_iff.mpr c49
      subst c49
      have H1 : (laws_FnExactAddClue.j0 k t206 t218 true l0_0 a1_0 a1_1 a1_2 t203 t208 t215) = some r := by rw [if_neg (show ¬ (false = true) by decide)] at H; exact H
      clear H
      have H := H1
      clear H1
      have H' := Aside0.mk H
      clear H
      have hnb60 := NB219_194.out
      have hnc60 := NB194_219.out
      have hnb61 := NB219_195.out
      have hnc61 := NB195_219.out
      have hnb62 := NB219_207.out
      have hnc62 := NB207_219.out
      have hnb63 := NB219_211.out
      have hnc63 := NB211_219.out
      have hcz64_0 : w45.cell? ⟨gb219, 0, none⟩ = some (.slice none 0 0) := (blk_cell BK219.out 0).trans rfl
      have hfz64_0 := blk_frozen BK219.out 0
      have hnb65 := NB207_194.out
      have hnc65 := NB194_207.out
      have hnb66 := NB207_195.out
      have hnc66 := NB195_207.out
      have hnb67 := NB207_211.out
      have hnc67 := NB211_207.out
      have hcz68_0 : w45.cell? ⟨gb207, 0, none⟩ = some (.slice Ao29 t203.length co29) := (blk_cell BK207.out 0).trans rfl
      have hfz68_0 := blk_frozen BK207.out 0
      go_wp2_with (first | ((with_reducible refine gate_callee (f := 31) rfl ?_); refine goesL_ (some 40) rfl rfl Try.func31 (by kernel_rfl) rfl #[.agg #[.slice Ao46 t215.length co46], .agg #[.slice Ao29 t203.length co29]] rfl (by (try simp only [List.map_toArray, List.map_cons, List.map_nil]); first | done | rfl | (simp only [List.length_drop, List.length_take]; rfl)) ?_; (with_reducible refine (laws_eqPuzzle.calls k _ _ t215 _ _ t203 false _ ?side1 ?side2 ?side3 ?side4 A48.out).mono ?_); (case side1 => refine (Kd.R_reads' (e := 25) (base := w.heap.size) (ok := fun k_ => (some k_ ≠ (v198 : Value).ownBlock ∧ (some k_ ≠ (.slice Ao29 t203.length co29 : Value).ownBlock ∧ some k_ ≠ (.slice Ao35 t208.length co35 : Value).ownBlock))) (n := t215.length) (c := co46) ?_).2.2; exact (by (with_reducible repeat (first | apply Kd.R_alloc | apply Kd.R_drewN | apply Kd.R_drew)); exact (Kd.R_mono (Kd.R_far (p := ⟨gb219, 0, none⟩) (Kd.R_types HO217.out BK219.out (by decide)) (fun _ hk => hk.2) (.slice Ao46 t215.length co46)) (fun _ h_ => h_.1)))); (case side2 => exact (Kd.R_reads' HO217.out).2.1); (case side3 => refine (Kd.R_reads' (e := 25) (base := w.heap.size) (ok := fun k_ => (some k_ ≠ (v198 : Value).ownBlock ∧ (some k_ ≠ (.slice Ao35 t208.length co35 : Value).ownBlock ∧ some k_ ≠ (.slice Ao46 t215.length co46 : Value).ownBlock))) (n := t203.length) (c := co29) ?_).2.2; exact (by (with_reducible repeat (first | apply Kd.R_alloc | apply Kd.R_drewN | apply Kd.R_drew)); exact (Kd.R_mono (Kd.R_far (p := ⟨gb219, 0, none⟩) (Kd.R_types HO205.out BK219.out (by decide)) (fun _ hk => hk.2) (.slice Ao46 t215.length co46)) (fun _ h_ => h_.1)))); (case side4 => exact (Kd.R_reads' HO205.out).2.1); rintro e w69 ⟨rfl, hb⟩; refine ⟨_, rfl, ?_⟩; have n0_ := Aside0.mk (Kd.R_below (by (with_reducible repeat (first | apply Kd.R_alloc | apply Kd.R_drewN | apply Kd.R_drew)); exact (Kd.R_mono (Kd.R_far (p := ⟨gb219, 0, none⟩) (Kd.R_types HO199.out BK219.out (by decide)) (fun _ hk => hk.2) (.slice Ao46 t215.length co46)) (fun _ h_ => h_.1))) hb); have n1_ := Aside0.mk (Kd.R_below (by (with_reducible repeat (first | apply Kd.R_alloc | apply Kd.R_drewN | apply Kd.R_drew)); exact (Kd.R_mono (Kd.R_far (p := ⟨gb219, 0, none⟩) (Kd.R_types HO205.out BK219.out (by decide)) (fun _ hk => hk.2) (.slice Ao46 t215.length co46)) (fun _ h_ => h_.1))) hb); have n2_ := Aside0.mk (Kd.R_below (by (with_reducible repeat (first | apply Kd.R_alloc | apply Kd.R_drewN | apply Kd.R_drew)); exact (Kd.R_mono (Kd.R_far (p := ⟨gb219, 0, none⟩) (Kd.R_types HO210.out BK219.out (by decide)) (fun _ hk => hk.2) (.slice Ao46 t215.length co46)) (fun _ h_ => h_.1))) hb); have n3_ := Aside0.mk (Kd.R_below (by (with_reducible repeat (first | apply Kd.R_alloc | apply Kd.R_drewN | apply Kd.R_drew)); exact (Kd.R_mono (Kd.R_far (p := ⟨gb219, 0, none⟩) (Kd.R_types HO217.out BK219.out (by decide)) (fun _ hk => hk.2) (.slice Ao46 t215.length co46)) (fun _ h_ => h_.1))) hb); have n4_ := Aside0.mk (blk_below (g := gb194) (o := .cells #[.slice A0_0 l0_0.length c0_0] 40 (0, 0)) (by (with_reducible repeat (first | refine blk_drewN ?_ _ | refine blk_drew ?_ | refine blk_alloc ?_ _)); refine blk_far ?_ NB194_219.out _; (with_reducible repeat (first | refine blk_drewN ?_ _ | refine blk_drew ?_ | refine blk_alloc ?_ _)); exact BK194.out) hb); have n5_ := Aside0.mk (blk_below (g := gb195) (o := .cells #[.int .i64 a1_0, .int .i64 a1_1, .int .i64 a1_2] 23 (0, 0)) (by (with_reducible repeat (first | refine blk_drewN ?_ _ | refine blk_drew ?_ | refine blk_alloc ?_ _)); refine blk_far ?_ NB195_219.out _; (with_reducible repeat (first | refine blk_drewN ?_ _ | refine blk_drew ?_ | refine blk_alloc ?_ _)); exact BK195.out) hb); have n6_ := Aside0.mk (blk_below (g := gb207) (o := .cells #[.slice Ao29 t203.length co29] 45 (0, 0)) (by (with_reducible repeat (first | refine blk_drewN ?_ _ | refine blk_drew ?_ | refine blk_alloc ?_ _)); refine blk_far ?_ NB207_219.out _; (with_reducible repeat (first | refine blk_drewN ?_ _ | refine blk_drew ?_ | refine blk_alloc ?_ _)); exact BK207.out) hb); have n7_ := Aside0.mk (blk_below (g := gb211) (o := .cells #[.slice Ao35 t208.length co35] 45 (0, 0)) (by (with_reducible repeat (first | refine blk_drewN ?_ _ | refine blk_drew ?_ | refine blk_alloc ?_ _)); refine blk_far ?_ NB211_219.out _; (with_reducible repeat (first | refine blk_drewN ?_ _ | refine blk_drew ?_ | refine blk_alloc ?_ _)); exact BK211.out) hb); have n8_ := Aside0.mk (blk_below (g := gb219) (o := .cells #[.slice Ao46 t215.length co46] 45 (0, 0)) (by (with_reducible repeat (first | refine blk_drewN ?_ _ | refine blk_drew ?_ | refine blk_alloc ?_ _)); refine blk_put (cs := #[.slice none 0 0]) ?_ 0 _ rfl; (with_reducible repeat (first | refine blk_drewN ?_ _ | refine blk_drew ?_ | refine blk_alloc ?_ _)); exact BK219.out) hb); have n9_ := Aside0.mk (below_step Xmv.ub hb); clear HO199; clear HO205; clear HO210; clear HO217; clear BK194; clear BK195; clear BK207; clear BK211; clear BK219; clear HB; have HO199 := n0_; have HO205 := n1_; have HO210 := n2_; have HO217 := n3_; have BK194 := n4_; have BK195 := n5_; have BK207 := n6_; have BK211 := n7_; have BK219 := n8_; have HB := n9_; clear n0_ n1_ n2_ n3_ n4_ n5_ n6_ n7_ n8_ n9_; (try clear hb); (try clear hb2); (try clear hk); (try clear hi)))
      go_meet
      case rel => exact ⟨_, (true), (by first | rfl | (simp; done) | (simp [*]; done)), H', ⟨by first | omega | exact Nat.le_refl _⟩, ⟨by (with_reducible repeat (first | apply Kd.R_alloc | apply Kd.R_drewN | apply Kd.R_drew)); exact Kd.R_mono HO205.out (fun _ hk => ⟨hk.2.1, hk.2.2⟩)⟩, ⟨by (with_reducible repeat (first | apply Kd.R_alloc | apply Kd.R_drewN | apply Kd.R_drew)); exact Kd.R_mono HO210.out (fun _ hk => ⟨hk.2.1, hk.2.2⟩)⟩, ⟨by (with_reducible repeat (first | apply Kd.R_alloc | apply Kd.R_drewN | apply Kd.R_drew)); exact Kd.R_mono HO217.out (fun _ hk => ⟨hk.2.1, hk.2.2⟩)⟩, ⟨by (with_reducible repeat (first | refine blk_drewN ?_ _ | refine blk_drew ?_ | refine blk_alloc ?_ _)); exact BK194.out⟩, ⟨by (with_reducible repeat (first | refine blk_drewN ?_ _ | refine blk_drew ?_ | refine blk_alloc ?_ _)); exact BK195.out⟩, ⟨by (with_reducible repeat (first | refine blk_drewN ?_ _ | refine blk_drew ?_ | refine blk_alloc ?_ _)); exact BK207.out⟩, ⟨by (with_reducible repeat (first | refine blk_drewN ?_ _ | refine blk_drew ?_ | refine blk_alloc ?_ _)); exact BK211.out⟩, ⟨by (with_reducible repeat (first | refine blk_drewN ?_ _ | refine blk_drew ?_ | refine blk_alloc ?_ _)); exact BK219.out⟩, ⟨by repeat (first | (with_reducible first | exact HB.out | apply below_alloc | apply pw_below_drewN | apply below_drew1 | refine below_set ?_ GE194.out | refine below_set ?_ GE195.out | refine below_set ?_ GE207.out | refine below_set ?_ GE211.out | refine below_set ?_ GE219.out) | exact HB.out)⟩⟩
   case rest =>
    clear HC16
    try clear c1
    try clear p2
    try clear c3
    try clear c4
    try clear c5
    try clear c6
    try clear c16
    try clear c31
    try clear c37
    try clear c49
    try clear c50
    try clear c51
    try clear c52
    try clear c53
    try clear c55
    try clear c56
    try clear c57
    try clear c60
    try clear c61
    try clear c62
    try clear c63
    try clear c65
    try clear c66
    try clear c67
    try clear hcz54_0
    try clear hcz58_0
    try clear hcz64_0
    try clear hcz68_0
    try clear hfz54_0
    try clear hfz58_0
    try clear hfz64_0
    try clear hfz68_0
    obtain ⟨kq, x46_15, rfl, HA, HJ15, HO_208000, HO_212000, HO_220000, BK194, BK195, BK207, BK211, BK219, HB⟩ := hcut
    cases kq with
    | zero => exact absurd HA.out (by simp [laws_FnExactAddClue.j0])
    | succ kj15 =>
     have H := HA.out
     clear HA
     simp only [laws_FnExactAddClue.j0] at H
     by_cases c70 : x46_15 = true
     · subst c70
       have H1 : (none) = some r := by rw [if_pos rfl] at H; exact H
       clear H
       have H := H1
       clear H1
       exact absurd H (by simp)
     · replace c70 := Bool.eq_false_iff.mpr c70
       subst c70
       have H1 : ((laws_toPuzzle.f kj15 l0_0).bind fun t221 => ((laws_eqPuzzle.f kj15 t208 t221).bind fun t224 => (if t224 = true then ((laws_markPuzzle.f kj15 t208 1).bind fun bt225 => (if bt225.1 < 0 then (laws_FnExactAddClue.j1 kj15 t206 true l0_0 a1_0 a1_1 a1_2 t203 t215) else ((laws_eqPuzzle.f kj15 t215 t203).bind fun t227 => (if t227 = true then (laws_FnExactAddClue.j1 kj15 t206 (t218 != t206) l0_0 a1_0 a1_1 a1_2 t203 t215) else (laws_FnExactAddClue.j1 kj15 t206 true l0_0 a1_0 a1_1 a1_2 t203 t215))))) else (none)))) = some r := by rw [if_neg (show ¬ (false = true) by decide)] at H; exact H
       clear H
       have H := H1
       clear H1
       replace H := Option.bind_eq_some_iff.mp H
       obtain ⟨t221, A710, H⟩ := H
       replace H : ((laws_eqPuzzle.f kj15 t208 t221).bind fun t224 => (if t224 = true then ((laws_markPuzzle.f kj15 t208 1).bind fun bt225 => (if bt225.1 < 0 then (laws_FnExactAddClue.j1 kj15 t206 true l0_0 a1_0 a1_1 a1_2 t203 t215) else ((laws_eqPuzzle.f kj15 t215 t203).bind fun t227 => (if t227 = true then (laws_FnExactAddClue.j1 kj15 t206 (t218 != t206) l0_0 a1_0 a1_1 a1_2 t203 t215) else (laws_FnExactAddClue.j1 kj15 t206 true l0_0 a1_0 a1_1 a1_2 t203 t215))))) else (none))) = some r := H
       have A71 := Aside0.mk A710
       clear A710
       replace H := Option.bind_eq_some_iff.mp H
       obtain ⟨t224, A720, H⟩ := H
       replace H : (if t224 = true then ((laws_markPuzzle.f kj15 t208 1).bind fun bt225 => (if bt225.1 < 0 then (laws_FnExactAddClue.j1 kj15 t206 true l0_0 a1_0 a1_1 a1_2 t203 t215) else ((laws_eqPuzzle.f kj15 t215 t203).bind fun t227 => (if t227 = true then (laws_FnExactAddClue.j1 kj15 t206 (t218 != t206) l0_0 a1_0 a1_1 a1_2 t203 t215) else (laws_FnExactAddClue.j1 kj15 t206 true l0_0 a1_0 a1_1 a1_2 t203 t215))))) else (none)) = some r := H
       have A72 := Aside0.mk A720
       clear A720
       by_cases c73 : t224 = true
       · subst c73
         have H1 : ((laws_markPuzzle.f kj15 t208 1).bind fun bt225 => (if bt225.1 < 0 then (laws_FnExactAddClue.j1 kj15 t206 true l0_0 a1_0 a1_1 a1_2 t203 t215) else ((laws_eqPuzzle.f kj15 t215 t203).bind fun t227 => (if t227 = true then (laws_FnExactAddClue.j1 kj15 t206 (t218 != t206) l0_0 a1_0 a1_1 a1_2 t203 t215) else (laws_FnExactAddClue.j1 kj15 t206 true l0_0 a1_0 a1_1 a1_2 t203 t215))))) = some r := by rw [if_pos rfl] at H; exact H
         clear H
         have H := H1
         clear H1
         replace H := Option.bind_eq_some_iff.mp H
         obtain ⟨⟨t225, t226⟩, A740, H⟩ := H
         replace H : (if t225 < 0 then (laws_FnExactAddClue.j1 kj15 t206 true l0_0 a1_0 a1_1 a1_2 t203 t215) else ((laws_eqPuzzle.f kj15 t215 t203).bind fun t227 => (if t227 = true then (laws_FnExactAddClue.j1 kj15 t206 (t218 != t206) l0_0 a1_0 a1_1 a1_2 t203 t215) else (laws_FnExactAddClue.j1 kj15 t206 true l0_0 a1_0 a1_1 a1_2 t203 t215)))) = some r := H
         have A74 := Aside0.mk A740
         clear A740
         have HC75 := Aside0.mk H
         clear H
         try go_wp2
         have n0_ := Aside0.mk (Kd.R_drew HO_208000.out); have n1_ := Aside0.mk (Kd.R_drew HO_212000.out); have n2_ := Aside0.mk (Kd.R_drew HO_220000.out); have n3_ := Aside0.mk (blk_drew BK194.out); have n4_ := Aside0.mk (blk_drew BK195.out); have n5_ := Aside0.mk (blk_drew BK207.out); have n6_ := Aside0.mk (blk_drew BK211.out); have n7_ := Aside0.mk (blk_drew BK219.out); have n8_ := Aside0.mk (below_drew1 HB.out); clear HO_208000 HO_212000 HO_220000 BK194 BK195 BK207 BK211 BK219 HB; have HO_208000 := n0_; have HO_212000 := n1_; have HO_220000 := n2_; have BK194 := n3_; have BK195 := n4_; have BK207 := n5_; have BK211 := n6_; have BK219 := n7_; have HB := n8_; clear n0_ n1_ n2_ n3_ n4_ n5_ n6_ n7_ n8_
         refine start_ (n := 5) (S := fun w' => w'.cell? ⟨gb211, 0, none⟩ = some (.slice Ao35 t208.length co35) ∧ w'.cell? ⟨gb194, 0, none⟩ = some (.slice A0_0 l0_0.length c0_0)) (ds := []) #[false, false, false, false, false] (by kernel_rfl) rfl rfl ⟨(blk_cell BK211.out 0).trans rfl, (blk_cell BK194.out 0).trans rfl⟩ (fun hHeld => ?_)
         generalize wc.drew = w76 at HO_208000 HO_212000 HO_220000 BK194 BK195 BK207 BK211 BK219 HB hHeld ⊢
         refine take_ (i := 0) (N := some 47) (v := ?_) (a' := ?_) #[true, false, false, false, false] rfl rfl (by kernel_rfl) (fun _ _ _ h => h) (Or.inl ⟨by rfl, ?_⟩) hHeld ?_ ?_
         rotate_left
         · rintro w' ⟨s0, s1⟩
           go_simp
           with_reducible rfl
         rotate_left
         · simp only [Act.put, List.setIfInBounds_toArray, List.set_cons_zero, List.set_cons_succ, i64_w, i32_w]
           rfl
         refine take_ (i := 1) (N := some 48) (v := ?_) (a' := ?_) #[true, true, false, false, false] rfl rfl (by kernel_rfl) (fun _ _ _ h => h) (Or.inl ⟨by rfl, ?_⟩) hHeld ?_ ?_
         rotate_left
         · rintro w' ⟨s0, s1⟩
           go_simp
           with_reducible rfl
         rotate_left
         · simp only [Act.put, List.setIfInBounds_toArray, List.set_cons_zero, List.set_cons_succ, i64_w, i32_w]
           rfl
         refine one_ (i := 2) (N := some 49) #[true, true, true, false, false] rfl rfl (by kernel_rfl) (by decide) (fun K hK => ?_)
         refine goes_ Try.func29 (by kernel_rfl) rfl #[.agg #[.slice A0_0 l0_0.length c0_0]] (by rfl) rfl rfl (by (try simp only [List.map_toArray, List.map_cons, List.map_nil]); first | done | rfl | (simp only [List.length_drop, List.length_take]; rfl)) ?_
         with_reducible refine (laws_toPuzzle.calls kj15 _ _ l0_0 t221 _ ?side1 ?side2 A71.out).mono ?_
         (case side1 => repeat (first | exact (Kd.C_below HR0_0.out HB.out) | (with_reducible refine Kd.C_alloc ?_ _) | (with_reducible refine Kd.C_drewN ?_ _) | (with_reducible refine Kd.C_drew ?_)))
         (case side2 => exact HC0_0.out)
         rintro e w77 ⟨v222, rfl, ho0, hb⟩
         refine ⟨_, rfl, ?_⟩
         have n0_ := Aside0.mk (Kd.R_elder' (Xmv.rm HO_208000.out) (Kd.R_base ho0) hb); have n1_ := Aside0.mk (Kd.R_elder' (Xmv.rm HO_212000.out) (Kd.R_base ho0) hb); have n2_ := Aside0.mk (Kd.R_elder' (Xmv.rm HO_220000.out) (Kd.R_base ho0) hb); have n3_ := Aside0.mk (Kd.R_lower (Kd.R_new' (Kd.R_new' (Kd.R_new' ho0 (Kd.R_lt (Xmv.rm HO_208000.out))) (Kd.R_lt (Xmv.rm HO_212000.out))) (Kd.R_lt (Xmv.rm HO_220000.out))) (below_size Xmv.ub)); have n4_ := Aside0.mk (blk_below (g := gb194) (o := .cells #[.slice A0_0 l0_0.length c0_0] 40 (0, 0)) (Xmv.bm BK194.out) hb); have n5_ := Aside0.mk (blk_below (g := gb195) (o := .cells #[.int .i64 a1_0, .int .i64 a1_1, .int .i64 a1_2] 23 (0, 0)) (Xmv.bm BK195.out) hb); have n6_ := Aside0.mk (blk_below (g := gb207) (o := .cells #[.slice Ao29 t203.length co29] 45 (0, 0)) (Xmv.bm BK207.out) hb); have n7_ := Aside0.mk (blk_below (g := gb211) (o := .cells #[.slice Ao35 t208.length co35] 45 (0, 0)) (Xmv.bm BK211.out) hb); have n8_ := Aside0.mk (blk_below (g := gb219) (o := .cells #[.slice Ao46 t215.length co46] 45 (0, 0)) (Xmv.bm BK219.out) hb); have n9_ := Aside0.mk (below_step Xmv.ub hb); clear HO_208000 HO_212000 HO_220000 BK194 BK195 BK207 BK211 BK219 HB; have HO_208000 := n0_; have HO_212000 := n1_; have HO_220000 := n2_; have HO223 := n3_; have BK194 := n4_; have BK195 := n5_; have BK207 := n6_; have BK211 := n7_; have BK219 := n8_; have HB := n9_; clear n0_ n1_ n2_ n3_ n4_ n5_ n6_ n7_ n8_ n9_; (try clear hb); (try clear hb2); (try clear hk); (try clear hi); (try clear ho0)
         obtain ⟨Ao78, co78, eo78⟩ := Kd.R_slice HO223.out
         (first | subst eo78 | (injection eo78 with f1_ f2_ f3_; have f4_ := f1_.symm; have f5_ := f3_.symm; clear f1_ f2_ f3_; subst f4_; subst f5_))
         refine hK.out _ _ ⟨(blk_cell BK211.out 0).trans rfl, (blk_cell BK194.out 0).trans rfl⟩ (fun hHeld => ?_)
         clear hK K
         refine norm_ (a' := ?_) ?_ ?_
         rotate_left
         · show Act.put _ (some 49) _ = _
           simp only [Act.put, List.setIfInBounds_toArray, List.set_cons_zero, List.set_cons_succ, i64_w, i32_w]
           rfl
         refine one_ (i := 3) (N := some 50) #[true, true, true, true, false] rfl rfl (by kernel_rfl) (by decide) (fun K hK => ?_)
         refine goes_ Try.func31 (by kernel_rfl) rfl #[.agg #[.slice Ao35 t208.length co35], .agg #[.slice Ao78 t221.length co78]] (by rfl) rfl rfl (by (try simp only [List.map_toArray, List.map_cons, List.map_nil]); first | done | rfl | (simp only [List.length_drop, List.length_take]; rfl)) ?_
         with_reducible refine (laws_eqPuzzle.calls kj15 _ _ t208 _ _ t221 true _ ?side1 ?side2 ?side3 ?side4 A72.out).mono ?_
         (case side1 => repeat (first | exact (Kd.R_reads' HO_212000.out).2.2 | (with_reducible refine Kd.C_alloc ?_ _) | (with_reducible refine Kd.C_drewN ?_ _) | (with_reducible refine Kd.C_drew ?_)))
         (case side2 => exact (Kd.R_reads' HO_212000.out).2.1)
         (case side3 => repeat (first | exact (Kd.R_reads' HO223.out).2.2 | (with_reducible refine Kd.C_alloc ?_ _) | (with_reducible refine Kd.C_drewN ?_ _) | (with_reducible refine Kd.C_drew ?_)))
         (case side4 => exact (Kd.R_reads' HO223.out).2.1)
         rintro e w79 ⟨rfl, hb⟩
         refine ⟨_, rfl, ?_⟩
         have n0_ := Aside0.mk (Kd.R_below (Xmv.rm HO_208000.out) hb); have n1_ := Aside0.mk (Kd.R_below (Xmv.rm HO_212000.out) hb); have n2_ := Aside0.mk (Kd.R_below (Xmv.rm HO_220000.out) hb); have n3_ := Aside0.mk (Kd.R_below (Xmv.rm HO223.out) hb); have n4_ := Aside0.mk (blk_below (g := gb194) (o := .cells #[.slice A0_0 l0_0.length c0_0] 40 (0, 0)) (Xmv.bm BK194.out) hb); have n5_ := Aside0.mk (blk_below (g := gb195) (o := .cells #[.int .i64 a1_0, .int .i64 a1_1, .int .i64 a1_2] 23 (0, 0)) (Xmv.bm BK195.out) hb); have n6_ := Aside0.mk (blk_below (g := gb207) (o := .cells #[.slice Ao29 t203.length co29] 45 (0, 0)) (Xmv.bm BK207.out) hb); have n7_ := Aside0.mk (blk_below (g := gb211) (o := .cells #[.slice Ao35 t208.length co35] 45 (0, 0)) (Xmv.bm BK211.out) hb); have n8_ := Aside0.mk (blk_below (g := gb219) (o := .cells #[.slice Ao46 t215.length co46] 45 (0, 0)) (Xmv.bm BK219.out) hb); have n9_ := Aside0.mk (below_step Xmv.ub hb); clear HO_208000 HO_212000 HO_220000 HO223 BK194 BK195 BK207 BK211 BK219 HB; have HO_208000 := n0_; have HO_212000 := n1_; have HO_220000 := n2_; have HO223 := n3_; have BK194 := n4_; have BK195 := n5_; have BK207 := n6_; have BK211 := n7_; have BK219 := n8_; have HB := n9_; clear n0_ n1_ n2_ n3_ n4_ n5_ n6_ n7_ n8_ n9_; (try clear hb); (try clear hb2); (try clear hk); (try clear hi)
         refine hK.out _ _ ⟨(blk_cell BK211.out 0).trans rfl, (blk_cell BK194.out 0).trans rfl⟩ (fun hHeld => ?_)
         clear hK K
         refine norm_ (a' := ?_) ?_ ?_
         rotate_left
         · show Act.put _ (some 50) _ = _
           simp only [Act.put, List.setIfInBounds_toArray, List.set_cons_zero, List.set_cons_succ, i64_w, i32_w]
           rfl
         refine pure_ (i := 4) (N := some 51) (v := ?_) (a' := ?_) #[true, true, true, true, true] rfl rfl (by kernel_rfl) (fun _ _ _ h => h) (Or.inl ⟨by rfl, ?_⟩) ?_ ?_
         rotate_left
         · intro w'
           go_simp
           with_reducible rfl
         rotate_left
         · simp only [Act.put, List.setIfInBounds_toArray, List.set_cons_zero, List.set_cons_succ, i64_w, i32_w]
           rfl
         refine done_ (by kernel_rfl) ?_
         have hnb80 := NB211_194.out
         have hnc80 := NB194_211.out
         have hnb81 := NB211_195.out
         have hnc81 := NB195_211.out
         have hnb82 := NB211_207.out
         have hnc82 := NB207_211.out
         have hnb83 := NB211_219.out
         have hnc83 := NB219_211.out
         have hcz84_0 : w79.cell? ⟨gb211, 0, none⟩ = some (.slice Ao35 t208.length co35) := (blk_cell BK211.out 0).trans rfl
         have hfz84_0 := blk_frozen BK211.out 0
         go_upto_region 14 with (first | ((with_reducible refine gate_callee (f := 38) rfl ?_); refine goesL_ (some 54) rfl rfl Try.func38 (by kernel_rfl) rfl #[.agg #[.slice Ao35 t208.length co35], .int .i64 1] rfl (by (try simp only [List.map_toArray, List.map_cons, List.map_nil]); first | done | rfl | (simp only [List.length_drop, List.length_take]; rfl)) ?_; (with_reducible refine (laws_markPuzzle.calls kj15 (fun k_ => some k_ = (.slice Ao35 t208.length co35 : Value).ownBlock) (.slice Ao35 t208.length co35) t208 1 t225 t226 w _ ?side1 ?side2 A74.out).mono ?_); (case side1 => repeat (first | (with_reducible first | exact HB.out | apply below_alloc | apply pw_below_drewN | apply below_drew1 | refine below_set ?_ GE194.out | refine below_set ?_ GE195.out | refine below_set ?_ GE207.out | refine below_set ?_ GE211.out | refine below_set ?_ GE219.out) | exact HB.out)); (case side2 => exact Kd.R_tight rfl HO_212000.out); rintro e w85 ⟨rfl, hy0, hb, hkp⟩; refine ⟨_, rfl, ?_⟩; have n0_ := Aside0.mk (Kd.R_mono (ok' := fun k_ => some k_ ≠ (.slice Ao35 t208.length co35 : Value).ownBlock ∧ some k_ ≠ (.slice Ao46 t215.length co46 : Value).ownBlock ∧ some k_ ≠ (.slice Ao78 t221.length co78 : Value).ownBlock) (Kd.R_keptB (HO_208000.out) hkp (fun k_ hk_ hs_ => (hk_.1.1) hs_)) (fun k_ hk_ => ⟨hk_.1.1.1, hk_.1.1.2, hk_.1.2⟩)); have n1_ := Aside0.mk (Kd.R_reok rfl hy0 (fun k_ e_ => HO_212000.out.1 k_ e_)); have n2_ := Aside0.mk (Kd.R_mono (ok' := fun k_ => some k_ ≠ (.slice Ao29 t203.length co29 : Value).ownBlock ∧ some k_ ≠ (.slice Ao35 t208.length co35 : Value).ownBlock ∧ some k_ ≠ (.slice Ao78 t221.length co78 : Value).ownBlock) (Kd.R_keptB (HO_220000.out) hkp (fun k_ hk_ hs_ => (hk_.1.2) hs_)) (fun k_ hk_ => ⟨hk_.1.1.1, hk_.1.1.2, hk_.1.2⟩)); have n3_ := Aside0.mk (blk_kept (Xmv.bm BK194.out) hkp (fun hs_ => (fun e_ => (Kd.R_ne HO_212000.out BK194.out (by decide)) e_) hs_)); have n4_ := Aside0.mk (blk_kept (Xmv.bm BK195.out) hkp (fun hs_ => (fun e_ => (Kd.R_ne HO_212000.out BK195.out (by decide)) e_) hs_)); have n5_ := Aside0.mk (blk_kept (Xmv.bm BK207.out) hkp (fun hs_ => (fun e_ => (Kd.R_ne HO_212000.out BK207.out (by decide)) e_) hs_)); have n6_ := Aside0.mk (blk_kept (Xmv.bm BK211.out) hkp (fun hs_ => (fun e_ => (Kd.R_ne HO_212000.out BK211.out (by decide)) e_) hs_)); have n7_ := Aside0.mk (blk_kept (Xmv.bm BK219.out) hkp (fun hs_ => (fun e_ => (Kd.R_ne HO_212000.out BK219.out (by decide)) e_) hs_)); have n8_ := Aside0.mk (Kd.R_mono (ok' := fun k_ => some k_ ≠ (.slice Ao29 t203.length co29 : Value).ownBlock ∧ some k_ ≠ (.slice Ao35 t208.length co35 : Value).ownBlock ∧ some k_ ≠ (.slice Ao46 t215.length co46 : Value).ownBlock) (Kd.R_keptB (HO223.out) hkp (fun k_ hk_ hs_ => (hk_.1.2) hs_)) (fun k_ hk_ => ⟨hk_.1.1.1.2, hk_.1.1.2, hk_.1.2⟩)); have n9_ := Aside0.mk (hb); clear HO_208000; clear HO_212000; clear HO_220000; clear BK194; clear BK195; clear BK207; clear BK211; clear BK219; clear HO223; clear HB; have HO_208000 := n0_; have HO_212000 := n1_; have HO_220000 := n2_; have BK194 := n3_; have BK195 := n4_; have BK207 := n5_; have BK211 := n6_; have BK219 := n7_; have HO223 := n8_; have HB := n9_; clear n0_ n1_ n2_ n3_ n4_ n5_ n6_ n7_ n8_ n9_; (try clear hb); (try clear hkp); (try clear hy0)))
         (try simp only [Act.put, List.setIfInBounds_toArray, List.set_cons_zero, List.set_cons_succ])
         go_cut [67] (fun v67 wc => ∃ (kq : Nat) (x67_74 : Bool), v67 = .bool x67_74 ∧ Aside0 (laws_FnExactAddClue.j1 kq t206 x67_74 l0_0 a1_0 a1_1 a1_2 t203 t215 = some r) ∧ Aside0 (kq ≤ kj15) ∧ Aside0 (Kd.R k25 25 wc w.heap.size (fun k_ => some k_ ≠ ((.slice Ao35 t208.length co35) : Value).ownBlock ∧ some k_ ≠ ((.slice Ao46 t215.length co46) : Value).ownBlock) (.slice Ao29 t203.length co29) t203) ∧ Aside0 (Kd.R k25 25 wc w.heap.size (fun k_ => some k_ ≠ ((.slice Ao29 t203.length co29) : Value).ownBlock ∧ some k_ ≠ ((.slice Ao46 t215.length co46) : Value).ownBlock) (.slice Ao35 t208.length co35) t226) ∧ Aside0 (Kd.R k25 25 wc w.heap.size (fun k_ => some k_ ≠ ((.slice Ao29 t203.length co29) : Value).ownBlock ∧ some k_ ≠ ((.slice Ao35 t208.length co35) : Value).ownBlock) (.slice Ao46 t215.length co46) t215) ∧ Aside0 (wc.heap[gb194]? = some (.cells #[(.slice A0_0 l0_0.length c0_0)] 40 (0, 0))) ∧ Aside0 (wc.heap[gb195]? = some (.cells #[.int .i64 a1_0, .int .i64 a1_1, .int .i64 a1_2] 23 (0, 0))) ∧ Aside0 (wc.heap[gb207]? = some (.cells #[(.slice Ao29 t203.length co29)] 45 (0, 0))) ∧ Aside0 (wc.heap[gb211]? = some (.cells #[(.slice Ao35 t208.length co35)] 45 (0, 0))) ∧ Aside0 (wc.heap[gb219]? = some (.cells #[(.slice Ao46 t215.length co46)] 45 (0, 0))) ∧ Aside0 (Below w.heap.size w wc))
         case first =>
          have H := HC75.out
          clear HC75
          by_cases c86 : t225 < 0
          · rw [if_pos c86] at H
            have c86b0 : decide (t225 < 0) = true := decide_eq_true c86
            clear c86
            (first | rw [c86b0] | (simp only [i64_w, i32_w]; rw [c86b0]) | skip)
            have H' := Aside0.mk H
            clear H
            go_wp2
            go_meet
            case rel => exact ⟨_, (true), (by first | rfl | (simp; done) | (simp [*]; done)), H', ⟨by have := HJ15.out; first | omega | exact Nat.le_refl _⟩, ⟨by (with_reducible repeat (first | apply Kd.R_alloc | apply Kd.R_drewN | apply Kd.R_drew)); exact Kd.R_mono HO_208000.out (fun _ hk => ⟨hk.1, hk.2.1⟩)⟩, ⟨by (with_reducible repeat (first | apply Kd.R_alloc | apply Kd.R_drewN | apply Kd.R_drew)); exact Kd.R_mono HO_212000.out (fun _ hk => ⟨hk.1.1, hk.1.2⟩)⟩, ⟨by (with_reducible repeat (first | apply Kd.R_alloc | apply Kd.R_drewN | apply Kd.R_drew)); exact Kd.R_mono HO_220000.out (fun _ hk => ⟨hk.1, hk.2.1⟩)⟩, ⟨by (with_reducible repeat (first | refine blk_drewN ?_ _ | refine blk_drew ?_ | refine blk_alloc ?_ _)); exact BK194.out⟩, ⟨by (with_reducible repeat (first | refine blk_drewN ?_ _ | refine blk_drew ?_ | refine blk_alloc ?_ _)); exact BK195.out⟩, ⟨by (with_reducible repeat (first | refine blk_drewN ?_ _ | refine blk_drew ?_ | refine blk_alloc ?_ _)); exact BK207.out⟩, ⟨by (with_reducible repeat (first | refine blk_drewN ?_ _ | refine blk_drew ?_ | refine blk_alloc ?_ _)); exact BK211.out⟩, ⟨by (with_reducible repeat (first | refine blk_drewN ?_ _ | refine blk_drew ?_ | refine blk_alloc ?_ _)); exact BK219.out⟩, ⟨by repeat (first | (with_reducible first | exact HB.out | apply below_alloc | apply pw_below_drewN | apply below_drew1 | refine below_set ?_ GE194.out | refine below_set ?_ GE195.out | refine below_set ?_ GE207.out | refine below_set ?_ GE211.out | refine below_set ?_ GE219.out) | exact HB.out)⟩⟩
          · rw [if_neg c86] at H
            have c86b0 : decide (t225 < 0) = false := decide_eq_false c86
            clear c86
            (first | rw [c86b0] | (simp only [i64_w, i32_w]; rw [c86b0]) | skip)
            replace H := Option.bind_eq_some_iff.mp H
            obtain ⟨t227, A870, H⟩ := H
            replace H : (if t227 = true then (laws_FnExactAddClue.j1 kj15 t206 (t218 != t206) l0_0 a1_0 a1_1 a1_2 t203 t215) else (laws_FnExactAddClue.j1 kj15 t206 true l0_0 a1_0 a1_1 a1_2 t203 t215)) = some r := H
            have A87 := Aside0.mk A870
            clear A870
            by_cases c88 : t227 = true
            · subst c88
              have H1 : (laws_FnExactAddClue.j1 kj15 t206 (t218 != t206) l0_0 a1_0 a1_1 a1_2 t203 t215) = some r := by rw [if_pos rfl] at H; exact H
              clear H
              have H := H1
              clear H1
              have H' := Aside0.mk H
              clear H
              have hnb89 := NB219_194.out
              have hnc89 := NB194_219.out
              have hnb90 := NB219_195.out
              have hnc90 := NB195_219.out
              have hnb91 := NB219_207.out
              have hnc91 := NB207_219.out
              have hnb92 := NB219_211.out
              have hnc92 := NB211_219.out
              have hcz93_0 : w85.cell? ⟨gb219, 0, none⟩ = some (.slice Ao46 t215.length co46) := (blk_cell BK219.out 0).trans rfl
              have hfz93_0 := blk_frozen BK219.out 0
              have hnb94 := NB207_194.out
              have hnc94 := NB194_207.out
              have hnb95 := NB207_195.out
              have hnc95 := NB195_207.out
              have hnb96 := NB207_211.out
              have hnc96 := NB211_207.out
              have hcz97_0 : w85.cell? ⟨gb207, 0, none⟩ = some (.slice Ao29 t203.length co29) := (blk_cell BK207.out 0).trans rfl
              have hfz97_0 := blk_frozen BK207.out 0
              go_wp2_with (first | (go_at_call 31; (with_reducible refine (laws_eqPuzzle.calls kj15 _ _ t215 _ _ t203 true _ ?side1 ?side2 ?side3 ?side4 A87.out).mono ?_); (case side1 => repeat (first | exact (Kd.R_reads' HO_220000.out).2.2 | (with_reducible refine Kd.C_alloc ?_ _) | (with_reducible refine Kd.C_drewN ?_ _) | (with_reducible refine Kd.C_drew ?_))); (case side2 => exact (Kd.R_reads' HO_220000.out).2.1); (case side3 => repeat (first | exact (Kd.R_reads' HO_208000.out).2.2 | (with_reducible refine Kd.C_alloc ?_ _) | (with_reducible refine Kd.C_drewN ?_ _) | (with_reducible refine Kd.C_drew ?_))); (case side4 => exact (Kd.R_reads' HO_208000.out).2.1); rintro e w98 ⟨rfl, hb⟩; have n0_ := Aside0.mk (Kd.R_below (Xmv.rm HO_208000.out) hb); have n1_ := Aside0.mk (Kd.R_below (Xmv.rm HO_212000.out) hb); have n2_ := Aside0.mk (Kd.R_below (Xmv.rm HO_220000.out) hb); have n3_ := Aside0.mk (Kd.R_below (Xmv.rm HO223.out) hb); have n4_ := Aside0.mk (blk_below (g := gb194) (o := .cells #[.slice A0_0 l0_0.length c0_0] 40 (0, 0)) (Xmv.bm BK194.out) hb); have n5_ := Aside0.mk (blk_below (g := gb195) (o := .cells #[.int .i64 a1_0, .int .i64 a1_1, .int .i64 a1_2] 23 (0, 0)) (Xmv.bm BK195.out) hb); have n6_ := Aside0.mk (blk_below (g := gb207) (o := .cells #[.slice Ao29 t203.length co29] 45 (0, 0)) (Xmv.bm BK207.out) hb); have n7_ := Aside0.mk (blk_below (g := gb211) (o := .cells #[.slice Ao35 t208.length co35] 45 (0, 0)) (Xmv.bm BK211.out) hb); have n8_ := Aside0.mk (blk_below (g := gb219) (o := .cells #[.slice Ao46 t215.length co46] 45 (0, 0)) (Xmv.bm BK219.out) hb); have n9_ := Aside0.mk (below_step Xmv.ub hb); clear HO_208000; clear HO_212000; clear HO_220000; clear HO223; clear BK194; clear BK195; clear BK207; clear BK211; clear BK219; clear HB; have HO_208000 := n0_; have HO_212000 := n1_; have HO_220000 := n2_; have HO223 := n3_; have BK194 := n4_; have BK195 := n5_; have BK207 := n6_; have BK211 := n7_; have BK219 := n8_; have HB := n9_; clear n0_ n1_ n2_ n3_ n4_ n5_ n6_ n7_ n8_ n9_; (try clear hb); (try clear hb2); (try clear hk); (try clear hi)))
              go_meet
              case rel => exact ⟨_, ((t218 != t206)), (by first | rfl | (simp; done) | (simp [*]; done)), H', ⟨by have := HJ15.out; first | omega | exact Nat.le_refl _⟩, ⟨by (with_reducible repeat (first | apply Kd.R_alloc | apply Kd.R_drewN | apply Kd.R_drew)); exact Kd.R_mono HO_208000.out (fun _ hk => ⟨hk.1, hk.2.1⟩)⟩, ⟨by (with_reducible repeat (first | apply Kd.R_alloc | apply Kd.R_drewN | apply Kd.R_drew)); exact Kd.R_mono HO_212000.out (fun _ hk => ⟨hk.1.1, hk.1.2⟩)⟩, ⟨by (with_reducible repeat (first | apply Kd.R_alloc | apply Kd.R_drewN | apply Kd.R_drew)); exact Kd.R_mono HO_220000.out (fun _ hk => ⟨hk.1, hk.2.1⟩)⟩, ⟨by (with_reducible repeat (first | refine blk_drewN ?_ _ | refine blk_drew ?_ | refine blk_alloc ?_ _)); exact BK194.out⟩, ⟨by (with_reducible repeat (first | refine blk_drewN ?_ _ | refine blk_drew ?_ | refine blk_alloc ?_ _)); exact BK195.out⟩, ⟨by (with_reducible repeat (first | refine blk_drewN ?_ _ | refine blk_drew ?_ | refine blk_alloc ?_ _)); exact BK207.out⟩, ⟨by (with_reducible repeat (first | refine blk_drewN ?_ _ | refine blk_drew ?_ | refine blk_alloc ?_ _)); exact BK211.out⟩, ⟨by (with_reducible repeat (first | refine blk_drewN ?_ _ | refine blk_drew ?_ | refine blk_alloc ?_ _)); exact BK219.out⟩, ⟨by repeat (first | (with_reducible first | exact HB.out | apply below_alloc | apply pw_below_drewN | apply below_drew1 | refine below_set ?_ GE194.out | refine below_set ?_ GE195.out | refine below_set ?_ GE207.out | refine below_set ?_ GE211.out | refine below_set ?_ GE219.out) | exact HB.out)⟩⟩
            · replace c88 := Bool.eq_false_iff.mpr c88
              subst c88
              have H1 : (laws_FnExactAddClue.j1 kj15 t206 true l0_0 a1_0 a1_1 a1_2 t203 t215) = some r := by rw [if_neg (show ¬ (false = true) by decide)] at H; exact H
              clear H
              have H := H1
              clear H1
              have H' := Aside0.mk H
              clear H
              have hnb99 := NB219_194.out
              have hnc99 := NB194_219.out
              have hnb100 := NB219_195.out
              have hnc100 := NB195_219.out
              have hnb101 := NB219_207.out
              have hnc101 := NB207_219.out
              have hnb102 := NB219_211.out
              have hnc102 := NB211_219.out
              have hcz103_0 : w85.cell? ⟨gb219, 0, none⟩ = some (.slice Ao46 t215.length co46) := (blk_cell BK219.out 0).trans rfl
              have hfz103_0 := blk_frozen BK219.out 0
              have hnb104 := NB207_194.out
              have hnc104 := NB194_207.out
              have hnb105 := NB207_195.out
              have hnc105 := NB195_207.out
              have hnb106 := NB207_211.out
              have hnc106 := NB211_207.out
              have hcz107_0 : w85.cell? ⟨gb207, 0, none⟩ = some (.slice Ao29 t203.length co29) := (blk_cell BK207.out 0).trans rfl
              have hfz107_0 := blk_frozen BK207.out 0
              go_wp2_with (first | (go_at_call 31; (with_reducible refine (laws_eqPuzzle.calls kj15 _ _ t215 _ _ t203 false _ ?side1 ?side2 ?side3 ?side4 A87.out).mono ?_); (case side1 => repeat (first | exact (Kd.R_reads' HO_220000.out).2.2 | (with_reducible refine Kd.C_alloc ?_ _) | (with_reducible refine Kd.C_drewN ?_ _) | (with_reducible refine Kd.C_drew ?_))); (case side2 => exact (Kd.R_reads' HO_220000.out).2.1); (case side3 => repeat (first | exact (Kd.R_reads' HO_208000.out).2.2 | (with_reducible refine Kd.C_alloc ?_ _) | (with_reducible refine Kd.C_drewN ?_ _) | (with_reducible refine Kd.C_drew ?_))); (case side4 => exact (Kd.R_reads' HO_208000.out).2.1); rintro e w108 ⟨rfl, hb⟩; have n0_ := Aside0.mk (Kd.R_below (Xmv.rm HO_208000.out) hb); have n1_ := Aside0.mk (Kd.R_below (Xmv.rm HO_212000.out) hb); have n2_ := Aside0.mk (Kd.R_below (Xmv.rm HO_220000.out) hb); have n3_ := Aside0.mk (Kd.R_below (Xmv.rm HO223.out) hb); have n4_ := Aside0.mk (blk_below (g := gb194) (o := .cells #[.slice A0_0 l0_0.length c0_0] 40 (0, 0)) (Xmv.bm BK194.out) hb); have n5_ := Aside0.mk (blk_below (g := gb195) (o := .cells #[.int .i64 a1_0, .int .i64 a1_1, .int .i64 a1_2] 23 (0, 0)) (Xmv.bm BK195.out) hb); have n6_ := Aside0.mk (blk_below (g := gb207) (o := .cells #[.slice Ao29 t203.length co29] 45 (0, 0)) (Xmv.bm BK207.out) hb); have n7_ := Aside0.mk (blk_below (g := gb211) (o := .cells #[.slice Ao35 t208.length co35] 45 (0, 0)) (Xmv.bm BK211.out) hb); have n8_ := Aside0.mk (blk_below (g := gb219) (o := .cells #[.slice Ao46 t215.length co46] 45 (0, 0)) (Xmv.bm BK219.out) hb); have n9_ := Aside0.mk (below_step Xmv.ub hb); clear HO_208000; clear HO_212000; clear HO_220000; clear HO223; clear BK194; clear BK195; clear BK207; clear BK211; clear BK219; clear HB; have HO_208000 := n0_; have HO_212000 := n1_; have HO_220000 := n2_; have HO223 := n3_; have BK194 := n4_; have BK195 := n5_; have BK207 := n6_; have BK211 := n7_; have BK219 := n8_; have HB := n9_; clear n0_ n1_ n2_ n3_ n4_ n5_ n6_ n7_ n8_ n9_; (try clear hb); (try clear hb2); (try clear hk); (try clear hi)))
              go_meet
              case rel => exact ⟨_, (true), (by first | rfl | (simp; done) | (simp [*]; done)), H', ⟨by have := HJ15.out; first | omega | exact Nat.le_refl _⟩, ⟨by (with_reducible repeat (first | apply Kd.R_alloc | apply Kd.R_drewN | apply Kd.R_drew)); exact Kd.R_mono HO_208000.out (fun _ hk => ⟨hk.1, hk.2.1⟩)⟩, ⟨by (with_reducible repeat (first | apply Kd.R_alloc | apply Kd.R_drewN | apply Kd.R_drew)); exact Kd.R_mono HO_212000.out (fun _ hk => ⟨hk.1.1, hk.1.2⟩)⟩, ⟨by (with_reducible repeat (first | apply Kd.R_alloc | apply Kd.R_drewN | apply Kd.R_drew)); exact Kd.R_mono HO_220000.out (fun _ hk => ⟨hk.1, hk.2.1⟩)⟩, ⟨by (with_reducible repeat (first | refine blk_drewN ?_ _ | refine blk_drew ?_ | refine blk_alloc ?_ _)); exact BK194.out⟩, ⟨by (with_reducible repeat (first | refine blk_drewN ?_ _ | refine blk_drew ?_ | refine blk_alloc ?_ _)); exact BK195.out⟩, ⟨by (with_reducible repeat (first | refine blk_drewN ?_ _ | refine blk_drew ?_ | refine blk_alloc ?_ _)); exact BK207.out⟩, ⟨by (with_reducible repeat (first | refine blk_drewN ?_ _ | refine blk_drew ?_ | refine blk_alloc ?_ _)); exact BK211.out⟩, ⟨by (with_reducible repeat (first | refine blk_drewN ?_ _ | refine blk_drew ?_ | refine blk_alloc ?_ _)); exact BK219.out⟩, ⟨by repeat (first | (with_reducible first | exact HB.out | apply below_alloc | apply pw_below_drewN | apply below_drew1 | refine below_set ?_ GE194.out | refine below_set ?_ GE195.out | refine below_set ?_ GE207.out | refine below_set ?_ GE211.out | refine below_set ?_ GE219.out) | exact HB.out)⟩⟩
         case rest =>
          clear HC75
          try clear c1
          try clear c2
          try clear p2
          try clear c3
          try clear c4
          try clear c5
          try clear c6
          try clear c7
          try clear c8
          try clear c9
          try clear c10
          try clear c16
          try clear c29
          try clear c31
          try clear c37
          try clear c38
          try clear c49
          try clear c50
          try clear c51
          try clear c52
          try clear c53
          try clear c55
          try clear c56
          try clear c57
          try clear c60
          try clear c61
          try clear c62
          try clear c63
          try clear c65
          try clear c66
          try clear c67
          try clear c70
          try clear c73
          try clear c80
          try clear c81
          try clear c82
          try clear c83
          try clear c86
          try clear c86b0
          try clear c88
          try clear c89
          try clear c90
          try clear c91
          try clear c92
          try clear c94
          try clear c95
          try clear c96
          try clear c99
          try clear c100
          try clear c101
          try clear c102
          try clear c104
          try clear c105
          try clear c106
          try clear hcz103_0
          try clear hcz107_0
          try clear hcz54_0
          try clear hcz58_0
          try clear hcz64_0
          try clear hcz68_0
          try clear hcz84_0
          try clear hcz93_0
          try clear hcz97_0
          try clear hfz103_0
          try clear hfz107_0
          try clear hfz54_0
          try clear hfz58_0
          try clear hfz64_0
          try clear hfz68_0
          try clear hfz84_0
          try clear hfz93_0
          try clear hfz97_0
          try clear p2
          obtain ⟨kq, x67_74, rfl, HA, HJ74, HO_208000, HO_212000, HO_220000, BK194, BK195, BK207, BK211, BK219, HB⟩ := hcut
          have hl212000_74 := (Kd.R_reads' HO_212000.out).1
          rw [hl212000_74] at HO_212000
          (try simp only [hl212000_74])
          (try simp only [hl212000_74] at BK194)
          (try simp only [hl212000_74] at BK195)
          (try simp only [hl212000_74] at BK207)
          (try simp only [hl212000_74] at BK211)
          (try simp only [hl212000_74] at BK219)
          (try simp only [hl212000_74] at HO_208000)
          (try simp only [hl212000_74] at HO_220000)
          cases kq with
          | zero => exact absurd HA.out (by simp [laws_FnExactAddClue.j1])
          | succ kj74 =>
           have H := HA.out
           clear HA
           simp only [laws_FnExactAddClue.j1] at H
           by_cases c109 : x67_74 = true
           · subst c109
             have H1 : (none) = some r := by rw [if_pos rfl] at H; exact H
             clear H
             have H := H1
             clear H1
             exact absurd H (by simp)
           · replace c109 := Bool.eq_false_iff.mpr c109
             subst c109
             have H1 : ((laws_markPuzzle.f kj74 t215 1).bind fun bt228 => ((laws_heldPuzzle.f kj74 bt228.2 1).bind fun t230 => (if t230 < 0 then (none) else (if t230 = bt228.1 then ((laws_toPuzzle.f kj74 l0_0).bind fun t231 => ((laws_toClue.f a1_0 a1_1 a1_2).bind fun bt234 => ((impl_AddClue.f kj74 t231 bt234.1 bt234.2.1 bt234.2.2).bind fun bt237 => ((laws_eqPuzzle.f kj74 bt237.1 t203).bind fun t242 => (if t242 = true then (laws_FnExactAddClue.j2 kj74 bt228.1 (bt237.2 != t206) bt228.2) else (laws_FnExactAddClue.j2 kj74 bt228.1 true bt228.2)))))) else (none))))) = some r := by rw [if_neg (show ¬ (false = true) by decide)] at H; exact H
             clear H
             have H := H1
             clear H1
             replace H := Option.bind_eq_some_iff.mp H
             obtain ⟨⟨t228, t229⟩, A1100, H⟩ := H
             replace H : ((laws_heldPuzzle.f kj74 t229 1).bind fun t230 => (if t230 < 0 then (none) else (if t230 = t228 then ((laws_toPuzzle.f kj74 l0_0).bind fun t231 => ((laws_toClue.f a1_0 a1_1 a1_2).bind fun bt234 => ((impl_AddClue.f kj74 t231 bt234.1 bt234.2.1 bt234.2.2).bind fun bt237 => ((laws_eqPuzzle.f kj74 bt237.1 t203).bind fun t242 => (if t242 = true then (laws_FnExactAddClue.j2 kj74 t228 (bt237.2 != t206) t229) else (laws_FnExactAddClue.j2 kj74 t228 true t229)))))) else (none)))) = some r := H
             have A110 := Aside0.mk A1100
             clear A1100
             replace H := Option.bind_eq_some_iff.mp H
             obtain ⟨t230, A1110, H⟩ := H
             replace H : (if t230 < 0 then (none) else (if t230 = t228 then ((laws_toPuzzle.f kj74 l0_0).bind fun t231 => ((laws_toClue.f a1_0 a1_1 a1_2).bind fun bt234 => ((impl_AddClue.f kj74 t231 bt234.1 bt234.2.1 bt234.2.2).bind fun bt237 => ((laws_eqPuzzle.f kj74 bt237.1 t203).bind fun t242 => (if t242 = true then (laws_FnExactAddClue.j2 kj74 t228 (bt237.2 != t206) t229) else (laws_FnExactAddClue.j2 kj74 t228 true t229)))))) else (none))) = some r := H
             have A111 := Aside0.mk A1110
             clear A1110
             by_cases c112 : t230 < 0
             · rw [if_pos c112] at H
               exact absurd H (by simp)
             · rw [if_neg c112] at H
               have c112b0 : decide (t230 < 0) = false := decide_eq_false c112
               clear c112
               by_cases c113 : t230 = t228
               · rw [if_pos c113] at H
                 have c113b0 : (t230 == t228) = true := beq_iff_eq.mpr c113
                 have c113b1 : (t230 != t228) = false := bne_eq_false_iff_eq.mpr c113
                 clear c113
                 replace H := Option.bind_eq_some_iff.mp H
                 obtain ⟨t231, A1140, H⟩ := H
                 replace H : ((laws_toClue.f a1_0 a1_1 a1_2).bind fun bt234 => ((impl_AddClue.f kj74 t231 bt234.1 bt234.2.1 bt234.2.2).bind fun bt237 => ((laws_eqPuzzle.f kj74 bt237.1 t203).bind fun t242 => (if t242 = true then (laws_FnExactAddClue.j2 kj74 t228 (bt237.2 != t206) t229) else (laws_FnExactAddClue.j2 kj74 t228 true t229))))) = some r := H
                 have A114 := Aside0.mk A1140
                 clear A1140
                 replace H := Option.bind_eq_some_iff.mp H
                 obtain ⟨⟨t234, t235, t236⟩, A1150, H⟩ := H
                 replace H : ((impl_AddClue.f kj74 t231 t234 t235 t236).bind fun bt237 => ((laws_eqPuzzle.f kj74 bt237.1 t203).bind fun t242 => (if t242 = true then (laws_FnExactAddClue.j2 kj74 t228 (bt237.2 != t206) t229) else (laws_FnExactAddClue.j2 kj74 t228 true t229)))) = some r := H
                 have A115 := Aside0.mk A1150
                 clear A1150
                 replace H := Option.bind_eq_some_iff.mp H
                 obtain ⟨⟨t237, t240⟩, A1160, H⟩ := H
                 replace H : ((laws_eqPuzzle.f kj74 t237 t203).bind fun t242 => (if t242 = true then (laws_FnExactAddClue.j2 kj74 t228 (t240 != t206) t229) else (laws_FnExactAddClue.j2 kj74 t228 true t229))) = some r := H
                 have A116 := Aside0.mk A1160
                 clear A1160
                 have HC117 := Aside0.mk H
                 clear H
                 have hnb118 := NB219_194.out
                 have hnc118 := NB194_219.out
                 have hnb119 := NB219_195.out
                 have hnc119 := NB195_219.out
                 have hnb120 := NB219_207.out
                 have hnc120 := NB207_219.out
                 have hnb121 := NB219_211.out
                 have hnc121 := NB211_219.out
                 have hcz122_0 : wc.cell? ⟨gb219, 0, none⟩ = some (.slice Ao46 t215.length co46) := (blk_cell BK219.out 0).trans rfl
                 have hfz122_0 := blk_frozen BK219.out 0
                 try go_wp2_with (first | ((with_reducible refine gate_callee (f := 38) rfl ?_); refine goesL_ (some 70) rfl rfl Try.func38 (by kernel_rfl) rfl #[.agg #[.slice Ao46 t215.length co46], .int .i64 1] rfl (by (try simp only [List.map_toArray, List.map_cons, List.map_nil]); first | done | rfl | (simp only [List.length_drop, List.length_take]; rfl)) ?_; (with_reducible refine (laws_markPuzzle.calls kj74 (fun k_ => some k_ = (.slice Ao46 t215.length co46 : Value).ownBlock) (.slice Ao46 t215.length co46) t215 1 t228 t229 w _ ?side1 ?side2 A110.out).mono ?_); (case side1 => repeat (first | (with_reducible first | exact HB.out | apply below_alloc | apply pw_below_drewN | apply below_drew1 | refine below_set ?_ GE194.out | refine below_set ?_ GE195.out | refine below_set ?_ GE207.out | refine below_set ?_ GE211.out | refine below_set ?_ GE219.out) | exact HB.out)); (case side2 => exact Kd.R_tight rfl HO_220000.out); rintro e w123 ⟨rfl, hy0, hb, hkp⟩; refine ⟨_, rfl, ?_⟩; have n0_ := Aside0.mk (Kd.R_mono (ok' := fun k_ => some k_ ≠ (.slice Ao35 t226.length co35 : Value).ownBlock ∧ some k_ ≠ (.slice Ao46 t215.length co46 : Value).ownBlock) (Kd.R_keptB (HO_208000.out) hkp (fun k_ hk_ hs_ => (hk_.2) hs_)) (fun k_ hk_ => ⟨hk_.1.1, hk_.1.2⟩)); have n1_ := Aside0.mk (Kd.R_mono (ok' := fun k_ => some k_ ≠ (.slice Ao29 t203.length co29 : Value).ownBlock ∧ some k_ ≠ (.slice Ao46 t215.length co46 : Value).ownBlock) (Kd.R_keptB (HO_212000.out) hkp (fun k_ hk_ hs_ => (hk_.2) hs_)) (fun k_ hk_ => ⟨hk_.1.1, hk_.1.2⟩)); have n2_ := Aside0.mk (Kd.R_reok rfl hy0 (fun k_ e_ => HO_220000.out.1 k_ e_)); have n3_ := Aside0.mk (blk_kept (Xmv.bm BK194.out) hkp (fun hs_ => (fun e_ => (Kd.R_ne HO_220000.out BK194.out (by decide)) e_) hs_)); have n4_ := Aside0.mk (blk_kept (Xmv.bm BK195.out) hkp (fun hs_ => (fun e_ => (Kd.R_ne HO_220000.out BK195.out (by decide)) e_) hs_)); have n5_ := Aside0.mk (blk_kept (Xmv.bm BK207.out) hkp (fun hs_ => (fun e_ => (Kd.R_ne HO_220000.out BK207.out (by decide)) e_) hs_)); have n6_ := Aside0.mk (blk_kept (Xmv.bm BK211.out) hkp (fun hs_ => (fun e_ => (Kd.R_ne HO_220000.out BK211.out (by decide)) e_) hs_)); have n7_ := Aside0.mk (blk_kept (Xmv.bm BK219.out) hkp (fun hs_ => (fun e_ => (Kd.R_ne HO_220000.out BK219.out (by decide)) e_) hs_)); have n8_ := Aside0.mk (hb); clear HO_208000; clear HO_212000; clear HO_220000; clear BK194; clear BK195; clear BK207; clear BK211; clear BK219; clear HB; have HO_208000 := n0_; have HO_212000 := n1_; have HO_220000 := n2_; have BK194 := n3_; have BK195 := n4_; have BK207 := n5_; have BK211 := n6_; have BK219 := n7_; have HB := n8_; clear n0_ n1_ n2_ n3_ n4_ n5_ n6_ n7_ n8_; (try clear hb); (try clear hkp); (try clear hy0); have hcz124_0 : w123.cell? ⟨gb219, 0, none⟩ = some (.slice Ao46 t215.length co46) := (blk_cell BK219.out 0).trans rfl; have hfz124_0 := blk_frozen BK219.out 0) | ((with_reducible refine gate_callee (f := 39) rfl ?_); refine goesL_ (some 73) rfl rfl Try.func39 (by kernel_rfl) rfl #[.agg #[.slice Ao46 t229.length co46], .int .i64 1] rfl (by (try simp only [List.map_toArray, List.map_cons, List.map_nil]); first | done | (rw [show t229.length = t215.length from (Kd.R_reads' HO_220000.out).1.symm] <;> rfl) | rfl | (simp only [List.length_drop, List.length_take]; rfl)) ?_; (with_reducible refine (laws_heldPuzzle.calls kj74 _ _ t229 1 t230 _ ?side1 ?side2 A111.out).mono ?_); (case side1 => repeat (first | exact (Kd.R_reads' HO_220000.out).2.2 | (with_reducible refine Kd.C_alloc ?_ _) | (with_reducible refine Kd.C_drewN ?_ _) | (with_reducible refine Kd.C_drew ?_))); (case side2 => rw [show t229.length = t215.length from (Kd.R_reads' HO_220000.out).1.symm]; exact (Kd.R_reads' HO_220000.out).2.1); rintro e w125 ⟨rfl, hb⟩; refine ⟨_, rfl, ?_⟩; have n0_ := Aside0.mk (Kd.R_below (Xmv.rm HO_208000.out) hb); have n1_ := Aside0.mk (Kd.R_below (Xmv.rm HO_212000.out) hb); have n2_ := Aside0.mk (Kd.R_below (Xmv.rm HO_220000.out) hb); have n3_ := Aside0.mk (blk_below (g := gb194) (o := .cells #[.slice A0_0 l0_0.length c0_0] 40 (0, 0)) (Xmv.bm BK194.out) hb); have n4_ := Aside0.mk (blk_below (g := gb195) (o := .cells #[.int .i64 a1_0, .int .i64 a1_1, .int .i64 a1_2] 23 (0, 0)) (Xmv.bm BK195.out) hb); have n5_ := Aside0.mk (blk_below (g := gb207) (o := .cells #[.slice Ao29 t203.length co29] 45 (0, 0)) (Xmv.bm BK207.out) hb); have n6_ := Aside0.mk (blk_below (g := gb211) (o := .cells #[.slice Ao35 t226.length co35] 45 (0, 0)) (Xmv.bm BK211.out) hb); have n7_ := Aside0.mk (blk_below (g := gb219) (o := .cells #[.slice Ao46 t215.length co46] 45 (0, 0)) (Xmv.bm BK219.out) hb); have n8_ := Aside0.mk (below_step Xmv.ub hb); clear HO_208000; clear HO_212000; clear HO_220000; clear BK194; clear BK195; clear BK207; clear BK211; clear BK219; clear HB; have HO_208000 := n0_; have HO_212000 := n1_; have HO_220000 := n2_; have BK194 := n3_; have BK195 := n4_; have BK207 := n5_; have BK211 := n6_; have BK219 := n7_; have HB := n8_; clear n0_ n1_ n2_ n3_ n4_ n5_ n6_ n7_ n8_; (try clear hb); (try clear hb2); (try clear hk); (try clear hi)))
                 have n0_ := Aside0.mk (Kd.R_drew HO_208000.out); have n1_ := Aside0.mk (Kd.R_drew HO_212000.out); have n2_ := Aside0.mk (Kd.R_drew HO_220000.out); have n3_ := Aside0.mk (blk_drew BK194.out); have n4_ := Aside0.mk (blk_drew BK195.out); have n5_ := Aside0.mk (blk_drew BK207.out); have n6_ := Aside0.mk (blk_drew BK211.out); have n7_ := Aside0.mk (blk_drew BK219.out); have n8_ := Aside0.mk (below_drew1 HB.out); clear HO_208000 HO_212000 HO_220000 BK194 BK195 BK207 BK211 BK219 HB; have HO_208000 := n0_; have HO_212000 := n1_; have HO_220000 := n2_; have BK194 := n3_; have BK195 := n4_; have BK207 := n5_; have BK211 := n6_; have BK219 := n7_; have HB := n8_; clear n0_ n1_ n2_ n3_ n4_ n5_ n6_ n7_ n8_
                 refine start_ (n := 11) (S := fun w' => w'.cell? ⟨gb194, 0, none⟩ = some (.slice A0_0 l0_0.length c0_0) ∧ w'.cell? ⟨gb195, 0, none⟩ = some (.int .i64 a1_0) ∧ w'.cell? ⟨gb195, 1, none⟩ = some (.int .i64 a1_1) ∧ w'.cell? ⟨gb195, 2, none⟩ = some (.int .i64 a1_2)) (ds := []) #[false, false, false, false, false, false, false, false, false, false, false] (by kernel_rfl) rfl rfl ⟨(blk_cell BK194.out 0).trans rfl, (blk_cell BK195.out 0).trans rfl, (blk_cell BK195.out 1).trans rfl, (blk_cell BK195.out 2).trans rfl⟩ (fun hHeld => ?_); refine with_tabW laws_FnExactAddClue.tab24 laws_FnExactAddClue.bits24 (fun HT_ HW_ => ?_)
                 generalize w125.drew = w126 at HO_208000 HO_212000 HO_220000 BK194 BK195 BK207 BK211 BK219 HB hHeld ⊢
                 refine take_ (i := 0) (N := some 80) (v := ?_) (a' := ?_) #[true, false, false, false, false, false, false, false, false, false, false] rfl rfl (take_ofW HT_.out HW_.out (by kernel_rfl)) (fun _ _ _ h => h) (Or.inl ⟨by rfl, ?_⟩) hHeld ?_ ?_
                 rotate_left
                 · rintro w' ⟨s0, s1, s2, s3⟩
                   go_simp
                   with_reducible rfl
                 rotate_left
                 · simp only [Act.put, List.setIfInBounds_toArray, List.set_cons_zero, List.set_cons_succ, i64_w, i32_w]
                   rfl
                 refine take_ (i := 2) (N := some 82) (v := ?_) (a' := ?_) #[true, false, true, false, false, false, false, false, false, false, false] rfl rfl (take_ofW HT_.out HW_.out (by kernel_rfl)) (fun _ _ _ h => h) (Or.inl ⟨by rfl, ?_⟩) hHeld ?_ ?_
                 rotate_left
                 · rintro w' ⟨s0, s1, s2, s3⟩
                   go_simp
                   with_reducible rfl
                 rotate_left
                 · simp only [Act.put, List.setIfInBounds_toArray, List.set_cons_zero, List.set_cons_succ, i64_w, i32_w]
                   rfl
                 refine join_ (σ := Value × Value × Nat) 2 #[true, true, true, true, true, true, true, true, true, false, false] (fun s_ => [(81, .agg #[s_.1]), (83, .agg #[.int .i64 t234, .int .i64 t235, .int .i64 t236]), (84, .tuple #[.agg #[s_.2.1], .bool t240]), (14, .pointer (some ⟨s_.2.2, 0, none⟩)), (79, .tuple #[.agg #[s_.2.1], .bool t240]), (85, .agg #[s_.2.1]), (86, .bool t240)]) (fun s_ w' => (w'.cell? ⟨gb194, 0, none⟩ = some (.slice A0_0 l0_0.length c0_0) ∧ w'.cell? ⟨gb195, 0, none⟩ = some (.int .i64 a1_0) ∧ w'.cell? ⟨gb195, 1, none⟩ = some (.int .i64 a1_1) ∧ w'.cell? ⟨gb195, 2, none⟩ = some (.int .i64 a1_2)) ∧ (Kd.R k25 25 w' w.heap.size (fun k_ => some k_ ≠ (s_.2.1 : Value).ownBlock ∧ some k_ ≠ (.slice Ao29 t203.length co29 : Value).ownBlock ∧ some k_ ≠ (.slice Ao35 t226.length co35 : Value).ownBlock ∧ some k_ ≠ (.slice Ao46 t215.length co46 : Value).ownBlock) s_.1 t231) ∧ (Kd.R k25 25 w' w.heap.size (fun k_ => some k_ ≠ (s_.1 : Value).ownBlock ∧ some k_ ≠ (.slice Ao29 t203.length co29 : Value).ownBlock ∧ some k_ ≠ (.slice Ao35 t226.length co35 : Value).ownBlock ∧ some k_ ≠ (.slice Ao46 t215.length co46 : Value).ownBlock) s_.2.1 t237) ∧ (Kd.R k25 25 w' w.heap.size (fun k_ => some k_ ≠ (s_.1 : Value).ownBlock ∧ some k_ ≠ (s_.2.1 : Value).ownBlock ∧ some k_ ≠ (.slice Ao35 t226.length co35 : Value).ownBlock ∧ some k_ ≠ (.slice Ao46 t215.length co46 : Value).ownBlock) (.slice Ao29 t203.length co29) t203) ∧ (Kd.R k25 25 w' w.heap.size (fun k_ => some k_ ≠ (s_.1 : Value).ownBlock ∧ some k_ ≠ (s_.2.1 : Value).ownBlock ∧ some k_ ≠ (.slice Ao29 t203.length co29 : Value).ownBlock ∧ some k_ ≠ (.slice Ao46 t215.length co46 : Value).ownBlock) (.slice Ao35 t226.length co35) t226) ∧ (Kd.R k25 25 w' w.heap.size (fun k_ => some k_ ≠ (s_.1 : Value).ownBlock ∧ some k_ ≠ (s_.2.1 : Value).ownBlock ∧ some k_ ≠ (.slice Ao29 t203.length co29 : Value).ownBlock ∧ some k_ ≠ (.slice Ao35 t226.length co35 : Value).ownBlock) (.slice Ao46 t215.length co46) t229) ∧ (w'.heap[gb194]? = some (.cells #[.slice A0_0 l0_0.length c0_0] 40 (0, 0))) ∧ (w'.heap[gb195]? = some (.cells #[.int .i64 a1_0, .int .i64 a1_1, .int .i64 a1_2] 23 (0, 0))) ∧ (w'.heap[gb207]? = some (.cells #[.slice Ao29 t203.length co29] 45 (0, 0))) ∧ (w'.heap[gb211]? = some (.cells #[.slice Ao35 t226.length co35] 45 (0, 0))) ∧ (w'.heap[gb219]? = some (.cells #[.slice Ao46 t215.length co46] 45 (0, 0))) ∧ (w'.heap[s_.2.2]? = some (.cells #[.slice none 0 0] 45 (0, 0))) ∧ (w.heap.size ≤ s_.2.2) ∧ (w.heap.size ≤ s_.2.2) ∧ (gb194 ≠ s_.2.2) ∧ (s_.2.2 ≠ gb194) ∧ (gb195 ≠ s_.2.2) ∧ (s_.2.2 ≠ gb195) ∧ (gb207 ≠ s_.2.2) ∧ (s_.2.2 ≠ gb207) ∧ (gb211 ≠ s_.2.2) ∧ (s_.2.2 ≠ gb211) ∧ (gb219 ≠ s_.2.2) ∧ (s_.2.2 ≠ gb219) ∧ (Below w.heap.size w w')) ?_ ?_
                 rotate_left
                 · intro hCont
                   refine two_ (i := 1) (j := 8) (Ni := some 81) (Nj := some 14) #[true, true, true, false, false, false, false, false, false, false, false] #[true, false, true, false, false, false, false, false, true, false, false] rfl rfl rfl rfl (two_of HT_.out (by kernel_rfl)) (by decide) (by decide) (fun K hK => ?_) (fun K hK => ?_)
                   · skip
                     refine goes_ Try.func29 (by kernel_rfl) rfl #[.agg #[.slice A0_0 l0_0.length c0_0]] (by rfl) rfl rfl (by (try simp only [List.map_toArray, List.map_cons, List.map_nil]); first | done | rfl | (simp only [List.length_drop, List.length_take]; rfl)) ?_
                     with_reducible refine (laws_toPuzzle.calls kj74 _ _ l0_0 t231 _ ?side1 ?side2 A114.out).mono ?_
                     (case side1 => repeat (first | exact (Kd.C_below HR0_0.out HB.out) | (with_reducible refine Kd.C_alloc ?_ _) | (with_reducible refine Kd.C_drewN ?_ _) | (with_reducible refine Kd.C_drew ?_)))
                     (case side2 => exact HC0_0.out)
                     rintro e w127 ⟨v232, rfl, ho0, hb⟩
                     refine ⟨_, rfl, ?_⟩
                     have n0_ := Aside0.mk (Kd.R_elder' (Xmv.rm HO_208000.out) (Kd.R_base ho0) hb); have n1_ := Aside0.mk (Kd.R_elder' (Xmv.rm HO_212000.out) (Kd.R_base ho0) hb); have n2_ := Aside0.mk (Kd.R_elder' (Xmv.rm HO_220000.out) (Kd.R_base ho0) hb); have n3_ := Aside0.mk (Kd.R_lower (Kd.R_new' (Kd.R_new' (Kd.R_new' ho0 (Kd.R_lt (Xmv.rm HO_208000.out))) (Kd.R_lt (Xmv.rm HO_212000.out))) (Kd.R_lt (Xmv.rm HO_220000.out))) (below_size Xmv.ub)); have n4_ := Aside0.mk (blk_below (g := gb194) (o := .cells #[.slice A0_0 l0_0.length c0_0] 40 (0, 0)) (Xmv.bm BK194.out) hb); have n5_ := Aside0.mk (blk_below (g := gb195) (o := .cells #[.int .i64 a1_0, .int .i64 a1_1, .int .i64 a1_2] 23 (0, 0)) (Xmv.bm BK195.out) hb); have n6_ := Aside0.mk (blk_below (g := gb207) (o := .cells #[.slice Ao29 t203.length co29] 45 (0, 0)) (Xmv.bm BK207.out) hb); have n7_ := Aside0.mk (blk_below (g := gb211) (o := .cells #[.slice Ao35 t226.length co35] 45 (0, 0)) (Xmv.bm BK211.out) hb); have n8_ := Aside0.mk (blk_below (g := gb219) (o := .cells #[.slice Ao46 t215.length co46] 45 (0, 0)) (Xmv.bm BK219.out) hb); have n9_ := Aside0.mk (below_step Xmv.ub hb); clear HO_208000 HO_212000 HO_220000 BK194 BK195 BK207 BK211 BK219 HB; have HO_208000 := n0_; have HO_212000 := n1_; have HO_220000 := n2_; have HO233 := n3_; have BK194 := n4_; have BK195 := n5_; have BK207 := n6_; have BK211 := n7_; have BK219 := n8_; have HB := n9_; clear n0_ n1_ n2_ n3_ n4_ n5_ n6_ n7_ n8_ n9_; (try clear hb); (try clear hb2); (try clear hk); (try clear hi); (try clear ho0)
                     refine hK.out _ _ ⟨(blk_cell BK194.out 0).trans rfl, (blk_cell BK195.out 0).trans rfl, (blk_cell BK195.out 1).trans rfl, (blk_cell BK195.out 2).trans rfl⟩ (fun hHeld => ?_)
                     clear hK K
                     refine norm_ (a' := ?_) ?_ ?_
                     rotate_left
                     · show Act.put _ (some 81) _ = _
                       simp only [Act.put, List.setIfInBounds_toArray, List.set_cons_zero, List.set_cons_succ, i64_w, i32_w]
                       rfl
                     refine two_ (i := 3) (j := 8) (Ni := some 83) (Nj := some 14) #[true, true, true, true, false, false, false, false, false, false, false] #[true, true, true, false, false, false, false, false, true, false, false] rfl rfl rfl rfl (two_of HT_.out (by kernel_rfl)) (by decide) (by decide) (fun K hK => ?_) (fun K hK => ?_)
                     · skip
                       refine goes_ Try.func16 (by kernel_rfl) rfl #[.agg #[.int .i64 a1_0, .int .i64 a1_1, .int .i64 a1_2]] (by rfl) rfl rfl (by (try simp only [List.map_toArray, List.map_cons, List.map_nil]); first | done | rfl | (simp only [List.length_drop, List.length_take]; rfl)) ?_
                       with_reducible refine (laws_toClue.calls a1_0 a1_1 a1_2 t234 t235 t236 _ A115.out).mono ?_
                       rintro e w128 ⟨rfl, hb⟩
                       refine ⟨_, rfl, ?_⟩
                       have n0_ := Aside0.mk (Kd.R_below (Xmv.rm HO_208000.out) hb); have n1_ := Aside0.mk (Kd.R_below (Xmv.rm HO_212000.out) hb); have n2_ := Aside0.mk (Kd.R_below (Xmv.rm HO_220000.out) hb); have n3_ := Aside0.mk (Kd.R_below (Xmv.rm HO233.out) hb); have n4_ := Aside0.mk (blk_below (g := gb194) (o := .cells #[.slice A0_0 l0_0.length c0_0] 40 (0, 0)) (Xmv.bm BK194.out) hb); have n5_ := Aside0.mk (blk_below (g := gb195) (o := .cells #[.int .i64 a1_0, .int .i64 a1_1, .int .i64 a1_2] 23 (0, 0)) (Xmv.bm BK195.out) hb); have n6_ := Aside0.mk (blk_below (g := gb207) (o := .cells #[.slice Ao29 t203.length co29] 45 (0, 0)) (Xmv.bm BK207.out) hb); have n7_ := Aside0.mk (blk_below (g := gb211) (o := .cells #[.slice Ao35 t226.length co35] 45 (0, 0)) (Xmv.bm BK211.out) hb); have n8_ := Aside0.mk (blk_below (g := gb219) (o := .cells #[.slice Ao46 t215.length co46] 45 (0, 0)) (Xmv.bm BK219.out) hb); have n9_ := Aside0.mk (below_step Xmv.ub hb); clear HO_208000 HO_212000 HO_220000 HO233 BK194 BK195 BK207 BK211 BK219 HB; have HO_208000 := n0_; have HO_212000 := n1_; have HO_220000 := n2_; have HO233 := n3_; have BK194 := n4_; have BK195 := n5_; have BK207 := n6_; have BK211 := n7_; have BK219 := n8_; have HB := n9_; clear n0_ n1_ n2_ n3_ n4_ n5_ n6_ n7_ n8_ n9_; (try clear hb); (try clear hb2); (try clear hk); (try clear hi)
                       obtain ⟨Ao129, co129, eo129⟩ := Kd.R_slice HO233.out
                       (first | subst eo129 | (injection eo129 with f1_ f2_ f3_; have f4_ := f1_.symm; have f5_ := f3_.symm; clear f1_ f2_ f3_; subst f4_; subst f5_))
                       refine hK.out _ _ ⟨(blk_cell BK194.out 0).trans rfl, (blk_cell BK195.out 0).trans rfl, (blk_cell BK195.out 1).trans rfl, (blk_cell BK195.out 2).trans rfl⟩ (fun hHeld => ?_)
                       clear hK K
                       refine norm_ (a' := ?_) ?_ ?_
                       rotate_left
                       · show Act.put _ (some 83) _ = _
                         simp only [Act.put, List.setIfInBounds_toArray, List.set_cons_zero, List.set_cons_succ, i64_w, i32_w]
                         rfl
                       refine two_ (i := 4) (j := 8) (Ni := some 84) (Nj := some 14) #[true, true, true, true, true, false, false, false, false, false, false] #[true, true, true, true, false, false, false, false, true, false, false] rfl rfl rfl rfl (two_of HT_.out (by kernel_rfl)) (by decide) (by decide) (fun K hK => ?_) (fun K hK => ?_)
                       · skip
                         refine goes_ Try.func37 (by kernel_rfl) rfl #[.agg #[.slice Ao129 t231.length co129], .agg #[.int .i64 t234, .int .i64 t235, .int .i64 t236]] (by rfl) rfl rfl (by (try simp only [List.map_toArray, List.map_cons, List.map_nil]); first | done | rfl | (simp only [List.length_drop, List.length_take]; rfl)) ?_
                         with_reducible refine (impl_AddClue.calls kj74 _ _ t231 t234 t235 t236 t237 t240 _ ?side1 ?side2 A116.out).mono ?_
                         (case side1 => repeat (first | exact (Kd.R_reads' HO233.out).2.2 | (with_reducible refine Kd.C_alloc ?_ _) | (with_reducible refine Kd.C_drewN ?_ _) | (with_reducible refine Kd.C_drew ?_)))
                         (case side2 => exact (Kd.R_reads' HO233.out).2.1)
                         rintro e w130 ⟨v238, rfl, ho0, hb⟩
                         refine ⟨_, rfl, ?_⟩
                         have n0_ := Aside0.mk (Kd.R_elder' (Xmv.rm HO_208000.out) (Kd.R_base ho0) hb); have n1_ := Aside0.mk (Kd.R_elder' (Xmv.rm HO_212000.out) (Kd.R_base ho0) hb); have n2_ := Aside0.mk (Kd.R_elder' (Xmv.rm HO_220000.out) (Kd.R_base ho0) hb); have n3_ := Aside0.mk (Kd.R_elder' (Xmv.rm HO233.out) (Kd.R_base ho0) hb); have n4_ := Aside0.mk (Kd.R_lower (Kd.R_new' (Kd.R_new' (Kd.R_new' (Kd.R_new' ho0 (Kd.R_lt (Xmv.rm HO_208000.out))) (Kd.R_lt (Xmv.rm HO_212000.out))) (Kd.R_lt (Xmv.rm HO_220000.out))) (Kd.R_lt (Xmv.rm HO233.out))) (below_size Xmv.ub)); have n5_ := Aside0.mk (blk_below (g := gb194) (o := .cells #[.slice A0_0 l0_0.length c0_0] 40 (0, 0)) (Xmv.bm BK194.out) hb); have n6_ := Aside0.mk (blk_below (g := gb195) (o := .cells #[.int .i64 a1_0, .int .i64 a1_1, .int .i64 a1_2] 23 (0, 0)) (Xmv.bm BK195.out) hb); have n7_ := Aside0.mk (blk_below (g := gb207) (o := .cells #[.slice Ao29 t203.length co29] 45 (0, 0)) (Xmv.bm BK207.out) hb); have n8_ := Aside0.mk (blk_below (g := gb211) (o := .cells #[.slice Ao35 t226.length co35] 45 (0, 0)) (Xmv.bm BK211.out) hb); have n9_ := Aside0.mk (blk_below (g := gb219) (o := .cells #[.slice Ao46 t215.length co46] 45 (0, 0)) (Xmv.bm BK219.out) hb); have n10_ := Aside0.mk (below_step Xmv.ub hb); clear HO_208000 HO_212000 HO_220000 HO233 BK194 BK195 BK207 BK211 BK219 HB; have HO_208000 := n0_; have HO_212000 := n1_; have HO_220000 := n2_; have HO233 := n3_; have HO239 := n4_; have BK194 := n5_; have BK195 := n6_; have BK207 := n7_; have BK211 := n8_; have BK219 := n9_; have HB := n10_; clear n0_ n1_ n2_ n3_ n4_ n5_ n6_ n7_ n8_ n9_ n10_; (try clear hb); (try clear hb2); (try clear hk); (try clear hi); (try clear ho0)
                         refine hK.out _ _ ⟨(blk_cell BK194.out 0).trans rfl, (blk_cell BK195.out 0).trans rfl, (blk_cell BK195.out 1).trans rfl, (blk_cell BK195.out 2).trans rfl⟩ (fun hHeld => ?_)
                         clear hK K
                         refine norm_ (a' := ?_) ?_ ?_
                         rotate_left
                         · show Act.put _ (some 84) _ = _
                           simp only [Act.put, List.setIfInBounds_toArray, List.set_cons_zero, List.set_cons_succ, i64_w, i32_w]
                           rfl
                         refine pure_ (i := 5) (N := some 79) (v := ?_) (a' := ?_) #[true, true, true, true, true, true, false, false, false, false, false] rfl rfl (any_of HT_.out (by kernel_rfl)) (fun _ _ _ h => h) (Or.inl ⟨by rfl, ?_⟩) ?_ ?_
                         rotate_left
                         · intro w'
                           go_simp
                           with_reducible rfl
                         rotate_left
                         · simp only [Act.put, List.setIfInBounds_toArray, List.set_cons_zero, List.set_cons_succ, i64_w, i32_w]
                           rfl
                         refine pure_ (i := 6) (N := some 85) (v := ?_) (a' := ?_) #[true, true, true, true, true, true, true, false, false, false, false] rfl rfl (any_of HT_.out (by kernel_rfl)) (fun _ _ _ h => h) (Or.inl ⟨by rfl, ?_⟩) ?_ ?_
                         rotate_left
                         · intro w'
                           go_simp
                           with_reducible rfl
                         rotate_left
                         · simp only [Act.put, List.setIfInBounds_toArray, List.set_cons_zero, List.set_cons_succ, i64_w, i32_w]
                           rfl
                         refine pure_ (i := 7) (N := some 86) (v := ?_) (a' := ?_) #[true, true, true, true, true, true, true, true, false, false, false] rfl rfl (any_of HT_.out (by kernel_rfl)) (fun _ _ _ h => h) (Or.inl ⟨by rfl, ?_⟩) ?_ ?_
                         rotate_left
                         · intro w'
                           go_simp
                           with_reducible rfl
                         rotate_left
                         · simp only [Act.put, List.setIfInBounds_toArray, List.set_cons_zero, List.set_cons_succ, i64_w, i32_w]
                           rfl
                         refine one_ (i := 8) (N := some 14) #[true, true, true, true, true, true, true, true, true, false, false] rfl rfl (one_of HT_.out (by kernel_rfl)) (by decide) (fun K hK => ?_)
                         refine box_step ?hg (N := 14) ?hd (cs := #[.slice none 0 0]) (t := 45) ?hr ?_; (case hd => rfl); (case hg => rfl); (case hr => first | (go_simp; done) | (go_simp; rfl))
                         intro gb241 hg w131 hbox hb
                         have n0_ := Aside0.mk (Kd.R_below (Xmv.rm HO_208000.out) hb); have n1_ := Aside0.mk (Kd.R_below (Xmv.rm HO_212000.out) hb); have n2_ := Aside0.mk (Kd.R_below (Xmv.rm HO_220000.out) hb); have n3_ := Aside0.mk (Kd.R_below (Xmv.rm HO233.out) hb); have n4_ := Aside0.mk (Kd.R_below (Xmv.rm HO239.out) hb); have n5_ := Aside0.mk (blk_below (g := gb194) (o := .cells #[.slice A0_0 l0_0.length c0_0] 40 (0, 0)) (Xmv.bm BK194.out) hb); have n6_ := Aside0.mk (blk_below (g := gb195) (o := .cells #[.int .i64 a1_0, .int .i64 a1_1, .int .i64 a1_2] 23 (0, 0)) (Xmv.bm BK195.out) hb); have n7_ := Aside0.mk (blk_below (g := gb207) (o := .cells #[.slice Ao29 t203.length co29] 45 (0, 0)) (Xmv.bm BK207.out) hb); have n8_ := Aside0.mk (blk_below (g := gb211) (o := .cells #[.slice Ao35 t226.length co35] 45 (0, 0)) (Xmv.bm BK211.out) hb); have n9_ := Aside0.mk (blk_below (g := gb219) (o := .cells #[.slice Ao46 t215.length co46] 45 (0, 0)) (Xmv.bm BK219.out) hb); have n10_ := Aside0.mk (below_step Xmv.ub hb); have n11_ := Aside0.mk (hbox); have n12_ := Aside0.mk ((by rw [hg]; exact (below_size Xmv.ub) : w.heap.size ≤ gb241)); have n13_ := Aside0.mk ((by rw [hg]; exact (below_size Xmv.ub) : w.heap.size ≤ gb241)); have n14_ := Aside0.mk ((by rw [hg]; exact Nat.ne_of_lt (blk_lt (g := gb194) (o := .cells #[.slice A0_0 l0_0.length c0_0] 40 (0, 0)) (Xmv.bm BK194.out)) : gb194 ≠ gb241)); have n15_ := Aside0.mk ((by rw [hg]; exact Nat.ne_of_gt (blk_lt (g := gb194) (o := .cells #[.slice A0_0 l0_0.length c0_0] 40 (0, 0)) (Xmv.bm BK194.out)) : gb241 ≠ gb194)); have n16_ := Aside0.mk ((by rw [hg]; exact Nat.ne_of_lt (blk_lt (g := gb195) (o := .cells #[.int .i64 a1_0, .int .i64 a1_1, .int .i64 a1_2] 23 (0, 0)) (Xmv.bm BK195.out)) : gb195 ≠ gb241)); have n17_ := Aside0.mk ((by rw [hg]; exact Nat.ne_of_gt (blk_lt (g := gb195) (o := .cells #[.int .i64 a1_0, .int .i64 a1_1, .int .i64 a1_2] 23 (0, 0)) (Xmv.bm BK195.out)) : gb241 ≠ gb195)); have n18_ := Aside0.mk ((by rw [hg]; exact Nat.ne_of_lt (blk_lt (g := gb207) (o := .cells #[.slice Ao29 t203.length co29] 45 (0, 0)) (Xmv.bm BK207.out)) : gb207 ≠ gb241)); have n19_ := Aside0.mk ((by rw [hg]; exact Nat.ne_of_gt (blk_lt (g := gb207) (o := .cells #[.slice Ao29 t203.length co29] 45 (0, 0)) (Xmv.bm BK207.out)) : gb241 ≠ gb207)); have n20_ := Aside0.mk ((by rw [hg]; exact Nat.ne_of_lt (blk_lt (g := gb211) (o := .cells #[.slice Ao35 t226.length co35] 45 (0, 0)) (Xmv.bm BK211.out)) : gb211 ≠ gb241)); have n21_ := Aside0.mk ((by rw [hg]; exact Nat.ne_of_gt (blk_lt (g := gb211) (o := .cells #[.slice Ao35 t226.length co35] 45 (0, 0)) (Xmv.bm BK211.out)) : gb241 ≠ gb211)); have n22_ := Aside0.mk ((by rw [hg]; exact Nat.ne_of_lt (blk_lt (g := gb219) (o := .cells #[.slice Ao46 t215.length co46] 45 (0, 0)) (Xmv.bm BK219.out)) : gb219 ≠ gb241)); have n23_ := Aside0.mk ((by rw [hg]; exact Nat.ne_of_gt (blk_lt (g := gb219) (o := .cells #[.slice Ao46 t215.length co46] 45 (0, 0)) (Xmv.bm BK219.out)) : gb241 ≠ gb219)); clear HO_208000 HO_212000 HO_220000 HO233 HO239 BK194 BK195 BK207 BK211 BK219 HB; have HO_208000 := n0_; have HO_212000 := n1_; have HO_220000 := n2_; have HO233 := n3_; have HO239 := n4_; have BK194 := n5_; have BK195 := n6_; have BK207 := n7_; have BK211 := n8_; have BK219 := n9_; have HB := n10_; have BK241 := n11_; have GW241 := n12_; have GE241 := n13_; have NB194_241 := n14_; have NB241_194 := n15_; have NB195_241 := n16_; have NB241_195 := n17_; have NB207_241 := n18_; have NB241_207 := n19_; have NB211_241 := n20_; have NB241_211 := n21_; have NB219_241 := n22_; have NB241_219 := n23_; clear n0_ n1_ n2_ n3_ n4_ n5_ n6_ n7_ n8_ n9_ n10_ n11_ n12_ n13_ n14_ n15_ n16_ n17_ n18_ n19_ n20_ n21_ n22_ n23_ hb hbox hg
                         refine hK.out _ _ ⟨(blk_cell BK194.out 0).trans rfl, (blk_cell BK195.out 0).trans rfl, (blk_cell BK195.out 1).trans rfl, (blk_cell BK195.out 2).trans rfl⟩ (fun hHeld => ?_)
                         clear hK K
                         refine norm_ (a' := ?_) ?_ ?_
                         rotate_left
                         · show Act.put _ (some 14) _ = _
                           simp only [Act.put, List.setIfInBounds_toArray, List.set_cons_zero, List.set_cons_succ, i64_w, i32_w]
                           rfl
                         exact norm_ (by simp only [putAll, Act.put, List.setIfInBounds_toArray, List.set_cons_zero, List.set_cons_succ]) (hCont (.slice Ao129 t231.length co129, v238, gb241) _ ⟨hHeld, (by (with_reducible repeat (first | apply Kd.R_alloc | apply Kd.R_drewN | apply Kd.R_drew)); exact Kd.R_mono HO233.out (fun _ hk => ⟨hk.2, ⟨hk.1.1.1.2, ⟨hk.1.1.2, hk.1.2⟩⟩⟩)), (by (with_reducible repeat (first | apply Kd.R_alloc | apply Kd.R_drewN | apply Kd.R_drew)); exact Kd.R_mono HO239.out (fun _ hk => ⟨hk.2, ⟨hk.1.1.1.2, ⟨hk.1.1.2, hk.1.2⟩⟩⟩)), (by (with_reducible repeat (first | apply Kd.R_alloc | apply Kd.R_drewN | apply Kd.R_drew)); exact Kd.R_mono HO_208000.out (fun _ hk => ⟨hk.1.2, ⟨hk.2, ⟨hk.1.1.1, hk.1.1.2⟩⟩⟩)), (by (with_reducible repeat (first | apply Kd.R_alloc | apply Kd.R_drewN | apply Kd.R_drew)); exact Kd.R_mono HO_212000.out (fun _ hk => ⟨hk.1.2, ⟨hk.2, ⟨hk.1.1.1, hk.1.1.2⟩⟩⟩)), (by (with_reducible repeat (first | apply Kd.R_alloc | apply Kd.R_drewN | apply Kd.R_drew)); exact Kd.R_mono HO_220000.out (fun _ hk => ⟨hk.1.2, ⟨hk.2, ⟨hk.1.1.1, hk.1.1.2⟩⟩⟩)), (Xmv.bm BK194.out), (Xmv.bm BK195.out), (Xmv.bm BK207.out), (Xmv.bm BK211.out), (Xmv.bm BK219.out), (Xmv.bm BK241.out), GW241.out, GE241.out, NB194_241.out, NB241_194.out, NB195_241.out, NB241_195.out, NB207_241.out, NB241_207.out, NB211_241.out, NB241_211.out, NB219_241.out, NB241_219.out, Xmv.ub⟩)
                       · skip
                         refine box_step ?hg (N := 14) ?hd (cs := #[.slice none 0 0]) (t := 45) ?hr ?_; (case hd => rfl); (case hg => rfl); (case hr => first | (go_simp; done) | (go_simp; rfl))
                         intro gb241 hg w129 hbox hb
                         have n0_ := Aside0.mk (Kd.R_below (Xmv.rm HO_208000.out) hb); have n1_ := Aside0.mk (Kd.R_below (Xmv.rm HO_212000.out) hb); have n2_ := Aside0.mk (Kd.R_below (Xmv.rm HO_220000.out) hb); have n3_ := Aside0.mk (Kd.R_below (Xmv.rm HO233.out) hb); have n4_ := Aside0.mk (blk_below (g := gb194) (o := .cells #[.slice A0_0 l0_0.length c0_0] 40 (0, 0)) (Xmv.bm BK194.out) hb); have n5_ := Aside0.mk (blk_below (g := gb195) (o := .cells #[.int .i64 a1_0, .int .i64 a1_1, .int .i64 a1_2] 23 (0, 0)) (Xmv.bm BK195.out) hb); have n6_ := Aside0.mk (blk_below (g := gb207) (o := .cells #[.slice Ao29 t203.length co29] 45 (0, 0)) (Xmv.bm BK207.out) hb); have n7_ := Aside0.mk (blk_below (g := gb211) (o := .cells #[.slice Ao35 t226.length co35] 45 (0, 0)) (Xmv.bm BK211.out) hb); have n8_ := Aside0.mk (blk_below (g := gb219) (o := .cells #[.slice Ao46 t215.length co46] 45 (0, 0)) (Xmv.bm BK219.out) hb); have n9_ := Aside0.mk (below_step Xmv.ub hb); have n10_ := Aside0.mk (hbox); have n11_ := Aside0.mk ((by rw [hg]; exact (below_size Xmv.ub) : w.heap.size ≤ gb241)); have n12_ := Aside0.mk ((by rw [hg]; exact (below_size Xmv.ub) : w.heap.size ≤ gb241)); have n13_ := Aside0.mk ((by rw [hg]; exact Nat.ne_of_lt (blk_lt (g := gb194) (o := .cells #[.slice A0_0 l0_0.length c0_0] 40 (0, 0)) (Xmv.bm BK194.out)) : gb194 ≠ gb241)); have n14_ := Aside0.mk ((by rw [hg]; exact Nat.ne_of_gt (blk_lt (g := gb194) (o := .cells #[.slice A0_0 l0_0.length c0_0] 40 (0, 0)) (Xmv.bm BK194.out)) : gb241 ≠ gb194)); have n15_ := Aside0.mk ((by rw [hg]; exact Nat.ne_of_lt (blk_lt (g := gb195) (o := .cells #[.int .i64 a1_0, .int .i64 a1_1, .int .i64 a1_2] 23 (0, 0)) (Xmv.bm BK195.out)) : gb195 ≠ gb241)); have n16_ := Aside0.mk ((by rw [hg]; exact Nat.ne_of_gt (blk_lt (g := gb195) (o := .cells #[.int .i64 a1_0, .int .i64 a1_1, .int .i64 a1_2] 23 (0, 0)) (Xmv.bm BK195.out)) : gb241 ≠ gb195)); have n17_ := Aside0.mk ((by rw [hg]; exact Nat.ne_of_lt (blk_lt (g := gb207) (o := .cells #[.slice Ao29 t203.length co29] 45 (0, 0)) (Xmv.bm BK207.out)) : gb207 ≠ gb241)); have n18_ := Aside0.mk ((by rw [hg]; exact Nat.ne_of_gt (blk_lt (g := gb207) (o := .cells #[.slice Ao29 t203.length co29] 45 (0, 0)) (Xmv.bm BK207.out)) : gb241 ≠ gb207)); have n19_ := Aside0.mk ((by rw [hg]; exact Nat.ne_of_lt (blk_lt (g := gb211) (o := .cells #[.slice Ao35 t226.length co35] 45 (0, 0)) (Xmv.bm BK211.out)) : gb211 ≠ gb241)); have n20_ := Aside0.mk ((by rw [hg]; exact Nat.ne_of_gt (blk_lt (g := gb211) (o := .cells #[.slice Ao35 t226.length co35] 45 (0, 0)) (Xmv.bm BK211.out)) : gb241 ≠ gb211)); have n21_ := Aside0.mk ((by rw [hg]; exact Nat.ne_of_lt (blk_lt (g := gb219) (o := .cells #[.slice Ao46 t215.length co46] 45 (0, 0)) (Xmv.bm BK219.out)) : gb219 ≠ gb241)); have n22_ := Aside0.mk ((by rw [hg]; exact Nat.ne_of_gt (blk_lt (g := gb219) (o := .cells #[.slice Ao46 t215.length co46] 45 (0, 0)) (Xmv.bm BK219.out)) : gb241 ≠ gb219)); clear HO_208000 HO_212000 HO_220000 HO233 BK194 BK195 BK207 BK211 BK219 HB; have HO_208000 := n0_; have HO_212000 := n1_; have HO_220000 := n2_; have HO233 := n3_; have BK194 := n4_; have BK195 := n5_; have BK207 := n6_; have BK211 := n7_; have BK219 := n8_; have HB := n9_; have BK241 := n10_; have GW241 := n11_; have GE241 := n12_; have NB194_241 := n13_; have NB241_194 := n14_; have NB195_241 := n15_; have NB241_195 := n16_; have NB207_241 := n17_; have NB241_207 := n18_; have NB211_241 := n19_; have NB241_211 := n20_; have NB219_241 := n21_; have NB241_219 := n22_; clear n0_ n1_ n2_ n3_ n4_ n5_ n6_ n7_ n8_ n9_ n10_ n11_ n12_ n13_ n14_ n15_ n16_ n17_ n18_ n19_ n20_ n21_ n22_ hb hbox hg
                         obtain ⟨Ao130, co130, eo130⟩ := Kd.R_slice HO233.out
                         (first | subst eo130 | (injection eo130 with f1_ f2_ f3_; have f4_ := f1_.symm; have f5_ := f3_.symm; clear f1_ f2_ f3_; subst f4_; subst f5_))
                         refine hK.out _ _ ⟨(blk_cell BK194.out 0).trans rfl, (blk_cell BK195.out 0).trans rfl, (blk_cell BK195.out 1).trans rfl, (blk_cell BK195.out 2).trans rfl⟩ (fun hHeld => ?_)
                         clear hK K
                         refine norm_ (a' := ?_) ?_ ?_
                         rotate_left
                         · show Act.put _ (some 14) _ = _
                           simp only [Act.put, List.setIfInBounds_toArray, List.set_cons_zero, List.set_cons_succ, i64_w, i32_w]
                           rfl
                         refine one_ (i := 4) (N := some 84) #[true, true, true, true, true, false, false, false, true, false, false] rfl rfl (one_of HT_.out (by kernel_rfl)) (by decide) (fun K hK => ?_)
                         refine goes_ Try.func37 (by kernel_rfl) rfl #[.agg #[.slice Ao130 t231.length co130], .agg #[.int .i64 t234, .int .i64 t235, .int .i64 t236]] (by rfl) rfl rfl (by (try simp only [List.map_toArray, List.map_cons, List.map_nil]); first | done | rfl | (simp only [List.length_drop, List.length_take]; rfl)) ?_
                         with_reducible refine (impl_AddClue.calls kj74 _ _ t231 t234 t235 t236 t237 t240 _ ?side1 ?side2 A116.out).mono ?_
                         (case side1 => repeat (first | exact (Kd.R_reads' HO233.out).2.2 | (with_reducible refine Kd.C_alloc ?_ _) | (with_reducible refine Kd.C_drewN ?_ _) | (with_reducible refine Kd.C_drew ?_)))
                         (case side2 => exact (Kd.R_reads' HO233.out).2.1)
                         rintro e w131 ⟨v238, rfl, ho0, hb⟩
                         refine ⟨_, rfl, ?_⟩
                         have n0_ := Aside0.mk (Kd.R_elder' (Xmv.rm HO_208000.out) (Kd.R_base ho0) hb); have n1_ := Aside0.mk (Kd.R_elder' (Xmv.rm HO_212000.out) (Kd.R_base ho0) hb); have n2_ := Aside0.mk (Kd.R_elder' (Xmv.rm HO_220000.out) (Kd.R_base ho0) hb); have n3_ := Aside0.mk (Kd.R_elder' (Xmv.rm HO233.out) (Kd.R_base ho0) hb); have n4_ := Aside0.mk (Kd.R_lower (Kd.R_new' (Kd.R_new' (Kd.R_new' (Kd.R_new' ho0 (Kd.R_lt (Xmv.rm HO_208000.out))) (Kd.R_lt (Xmv.rm HO_212000.out))) (Kd.R_lt (Xmv.rm HO_220000.out))) (Kd.R_lt (Xmv.rm HO233.out))) (below_size Xmv.ub)); have n5_ := Aside0.mk (blk_below (g := gb194) (o := .cells #[.slice A0_0 l0_0.length c0_0] 40 (0, 0)) (Xmv.bm BK194.out) hb); have n6_ := Aside0.mk (blk_below (g := gb195) (o := .cells #[.int .i64 a1_0, .int .i64 a1_1, .int .i64 a1_2] 23 (0, 0)) (Xmv.bm BK195.out) hb); have n7_ := Aside0.mk (blk_below (g := gb207) (o := .cells #[.slice Ao29 t203.length co29] 45 (0, 0)) (Xmv.bm BK207.out) hb); have n8_ := Aside0.mk (blk_below (g := gb211) (o := .cells #[.slice Ao35 t226.length co35] 45 (0, 0)) (Xmv.bm BK211.out) hb); have n9_ := Aside0.mk (blk_below (g := gb219) (o := .cells #[.slice Ao46 t215.length co46] 45 (0, 0)) (Xmv.bm BK219.out) hb); have n10_ := Aside0.mk (blk_below (g := gb241) (o := .cells #[.slice none 0 0] 45 (0, 0)) (Xmv.bm BK241.out) hb); have n11_ := Aside0.mk (below_step Xmv.ub hb); clear HO_208000 HO_212000 HO_220000 HO233 BK194 BK195 BK207 BK211 BK219 BK241 HB; have HO_208000 := n0_; have HO_212000 := n1_; have HO_220000 := n2_; have HO233 := n3_; have HO239 := n4_; have BK194 := n5_; have BK195 := n6_; have BK207 := n7_; have BK211 := n8_; have BK219 := n9_; have BK241 := n10_; have HB := n11_; clear n0_ n1_ n2_ n3_ n4_ n5_ n6_ n7_ n8_ n9_ n10_ n11_; (try clear hb); (try clear hb2); (try clear hk); (try clear hi); (try clear ho0)
                         refine hK.out _ _ ⟨(blk_cell BK194.out 0).trans rfl, (blk_cell BK195.out 0).trans rfl, (blk_cell BK195.out 1).trans rfl, (blk_cell BK195.out 2).trans rfl⟩ (fun hHeld => ?_)
                         clear hK K
                         refine norm_ (a' := ?_) ?_ ?_
                         rotate_left
                         · show Act.put _ (some 84) _ = _
                           simp only [Act.put, List.setIfInBounds_toArray, List.set_cons_zero, List.set_cons_succ, i64_w, i32_w]
                           rfl
                         refine pure_ (i := 5) (N := some 79) (v := ?_) (a' := ?_) #[true, true, true, true, true, true, false, false, true, false, false] rfl rfl (any_of HT_.out (by kernel_rfl)) (fun _ _ _ h => h) (Or.inl ⟨by rfl, ?_⟩) ?_ ?_
                         rotate_left
                         · intro w'
                           go_simp
                           with_reducible rfl
                         rotate_left
                         · simp only [Act.put, List.setIfInBounds_toArray, List.set_cons_zero, List.set_cons_succ, i64_w, i32_w]
                           rfl
                         refine pure_ (i := 6) (N := some 85) (v := ?_) (a' := ?_) #[true, true, true, true, true, true, true, false, true, false, false] rfl rfl (any_of HT_.out (by kernel_rfl)) (fun _ _ _ h => h) (Or.inl ⟨by rfl, ?_⟩) ?_ ?_
                         rotate_left
                         · intro w'
                           go_simp
                           with_reducible rfl
                         rotate_left
                         · simp only [Act.put, List.setIfInBounds_toArray, List.set_cons_zero, List.set_cons_succ, i64_w, i32_w]
                           rfl
                         refine pure_ (i := 7) (N := some 86) (v := ?_) (a' := ?_) #[true, true, true, true, true, true, true, true, true, false, false] rfl rfl (any_of HT_.out (by kernel_rfl)) (fun _ _ _ h => h) (Or.inl ⟨by rfl, ?_⟩) ?_ ?_
                         rotate_left
                         · intro w'
                           go_simp
                           with_reducible rfl
                         rotate_left
                         · simp only [Act.put, List.setIfInBounds_toArray, List.set_cons_zero, List.set_cons_succ, i64_w, i32_w]
                           rfl
                         exact norm_ (by simp only [putAll, Act.put, List.setIfInBounds_toArray, List.set_cons_zero, List.set_cons_succ]) (hCont (.slice Ao130 t231.length co130, v238, gb241) _ ⟨hHeld, (by (with_reducible repeat (first | apply Kd.R_alloc | apply Kd.R_drewN | apply Kd.R_drew)); exact Kd.R_mono HO233.out (fun _ hk => ⟨hk.2, ⟨hk.1.1.1.2, ⟨hk.1.1.2, hk.1.2⟩⟩⟩)), (by (with_reducible repeat (first | apply Kd.R_alloc | apply Kd.R_drewN | apply Kd.R_drew)); exact Kd.R_mono HO239.out (fun _ hk => ⟨hk.2, ⟨hk.1.1.1.2, ⟨hk.1.1.2, hk.1.2⟩⟩⟩)), (by (with_reducible repeat (first | apply Kd.R_alloc | apply Kd.R_drewN | apply Kd.R_drew)); exact Kd.R_mono HO_208000.out (fun _ hk => ⟨hk.1.2, ⟨hk.2, ⟨hk.1.1.1, hk.1.1.2⟩⟩⟩)), (by (with_reducible repeat (first | apply Kd.R_alloc | apply Kd.R_drewN | apply Kd.R_drew)); exact Kd.R_mono HO_212000.out (fun _ hk => ⟨hk.1.2, ⟨hk.2, ⟨hk.1.1.1, hk.1.1.2⟩⟩⟩)), (by (with_reducible repeat (first | apply Kd.R_alloc | apply Kd.R_drewN | apply Kd.R_drew)); exact Kd.R_mono HO_220000.out (fun _ hk => ⟨hk.1.2, ⟨hk.2, ⟨hk.1.1.1, hk.1.1.2⟩⟩⟩)), (Xmv.bm BK194.out), (Xmv.bm BK195.out), (Xmv.bm BK207.out), (Xmv.bm BK211.out), (Xmv.bm BK219.out), (Xmv.bm BK241.out), GW241.out, GE241.out, NB194_241.out, NB241_194.out, NB195_241.out, NB241_195.out, NB207_241.out, NB241_207.out, NB211_241.out, NB241_211.out, NB219_241.out, NB241_219.out, Xmv.ub⟩)
                     · skip
                       refine box_step ?hg (N := 14) ?hd (cs := #[.slice none 0 0]) (t := 45) ?hr ?_; (case hd => rfl); (case hg => rfl); (case hr => first | (go_simp; done) | (go_simp; rfl))
                       intro gb241 hg w128 hbox hb
                       have n0_ := Aside0.mk (Kd.R_below (Xmv.rm HO_208000.out) hb); have n1_ := Aside0.mk (Kd.R_below (Xmv.rm HO_212000.out) hb); have n2_ := Aside0.mk (Kd.R_below (Xmv.rm HO_220000.out) hb); have n3_ := Aside0.mk (Kd.R_below (Xmv.rm HO233.out) hb); have n4_ := Aside0.mk (blk_below (g := gb194) (o := .cells #[.slice A0_0 l0_0.length c0_0] 40 (0, 0)) (Xmv.bm BK194.out) hb); have n5_ := Aside0.mk (blk_below (g := gb195) (o := .cells #[.int .i64 a1_0, .int .i64 a1_1, .int .i64 a1_2] 23 (0, 0)) (Xmv.bm BK195.out) hb); have n6_ := Aside0.mk (blk_below (g := gb207) (o := .cells #[.slice Ao29 t203.length co29] 45 (0, 0)) (Xmv.bm BK207.out) hb); have n7_ := Aside0.mk (blk_below (g := gb211) (o := .cells #[.slice Ao35 t226.length co35] 45 (0, 0)) (Xmv.bm BK211.out) hb); have n8_ := Aside0.mk (blk_below (g := gb219) (o := .cells #[.slice Ao46 t215.length co46] 45 (0, 0)) (Xmv.bm BK219.out) hb); have n9_ := Aside0.mk (below_step Xmv.ub hb); have n10_ := Aside0.mk (hbox); have n11_ := Aside0.mk ((by rw [hg]; exact (below_size Xmv.ub) : w.heap.size ≤ gb241)); have n12_ := Aside0.mk ((by rw [hg]; exact (below_size Xmv.ub) : w.heap.size ≤ gb241)); have n13_ := Aside0.mk ((by rw [hg]; exact Nat.ne_of_lt (blk_lt (g := gb194) (o := .cells #[.slice A0_0 l0_0.length c0_0] 40 (0, 0)) (Xmv.bm BK194.out)) : gb194 ≠ gb241)); have n14_ := Aside0.mk ((by rw [hg]; exact Nat.ne_of_gt (blk_lt (g := gb194) (o := .cells #[.slice A0_0 l0_0.length c0_0] 40 (0, 0)) (Xmv.bm BK194.out)) : gb241 ≠ gb194)); have n15_ := Aside0.mk ((by rw [hg]; exact Nat.ne_of_lt (blk_lt (g := gb195) (o := .cells #[.int .i64 a1_0, .int .i64 a1_1, .int .i64 a1_2] 23 (0, 0)) (Xmv.bm BK195.out)) : gb195 ≠ gb241)); have n16_ := Aside0.mk ((by rw [hg]; exact Nat.ne_of_gt (blk_lt (g := gb195) (o := .cells #[.int .i64 a1_0, .int .i64 a1_1, .int .i64 a1_2] 23 (0, 0)) (Xmv.bm BK195.out)) : gb241 ≠ gb195)); have n17_ := Aside0.mk ((by rw [hg]; exact Nat.ne_of_lt (blk_lt (g := gb207) (o := .cells #[.slice Ao29 t203.length co29] 45 (0, 0)) (Xmv.bm BK207.out)) : gb207 ≠ gb241)); have n18_ := Aside0.mk ((by rw [hg]; exact Nat.ne_of_gt (blk_lt (g := gb207) (o := .cells #[.slice Ao29 t203.length co29] 45 (0, 0)) (Xmv.bm BK207.out)) : gb241 ≠ gb207)); have n19_ := Aside0.mk ((by rw [hg]; exact Nat.ne_of_lt (blk_lt (g := gb211) (o := .cells #[.slice Ao35 t226.length co35] 45 (0, 0)) (Xmv.bm BK211.out)) : gb211 ≠ gb241)); have n20_ := Aside0.mk ((by rw [hg]; exact Nat.ne_of_gt (blk_lt (g := gb211) (o := .cells #[.slice Ao35 t226.length co35] 45 (0, 0)) (Xmv.bm BK211.out)) : gb241 ≠ gb211)); have n21_ := Aside0.mk ((by rw [hg]; exact Nat.ne_of_lt (blk_lt (g := gb219) (o := .cells #[.slice Ao46 t215.length co46] 45 (0, 0)) (Xmv.bm BK219.out)) : gb219 ≠ gb241)); have n22_ := Aside0.mk ((by rw [hg]; exact Nat.ne_of_gt (blk_lt (g := gb219) (o := .cells #[.slice Ao46 t215.length co46] 45 (0, 0)) (Xmv.bm BK219.out)) : gb241 ≠ gb219)); clear HO_208000 HO_212000 HO_220000 HO233 BK194 BK195 BK207 BK211 BK219 HB; have HO_208000 := n0_; have HO_212000 := n1_; have HO_220000 := n2_; have HO233 := n3_; have BK194 := n4_; have BK195 := n5_; have BK207 := n6_; have BK211 := n7_; have BK219 := n8_; have HB := n9_; have BK241 := n10_; have GW241 := n11_; have GE241 := n12_; have NB194_241 := n13_; have NB241_194 := n14_; have NB195_241 := n15_; have NB241_195 := n16_; have NB207_241 := n17_; have NB241_207 := n18_; have NB211_241 := n19_; have NB241_211 := n20_; have NB219_241 := n21_; have NB241_219 := n22_; clear n0_ n1_ n2_ n3_ n4_ n5_ n6_ n7_ n8_ n9_ n10_ n11_ n12_ n13_ n14_ n15_ n16_ n17_ n18_ n19_ n20_ n21_ n22_ hb hbox hg
                       refine hK.out _ _ ⟨(blk_cell BK194.out 0).trans rfl, (blk_cell BK195.out 0).trans rfl, (blk_cell BK195.out 1).trans rfl, (blk_cell BK195.out 2).trans rfl⟩ (fun hHeld => ?_)
                       clear hK K
                       refine norm_ (a' := ?_) ?_ ?_
                       rotate_left
                       · show Act.put _ (some 14) _ = _
                         simp only [Act.put, List.setIfInBounds_toArray, List.set_cons_zero, List.set_cons_succ, i64_w, i32_w]
                         rfl
                       refine one_ (i := 3) (N := some 83) #[true, true, true, true, false, false, false, false, true, false, false] rfl rfl (one_of HT_.out (by kernel_rfl)) (by decide) (fun K hK => ?_)
                       refine goes_ Try.func16 (by kernel_rfl) rfl #[.agg #[.int .i64 a1_0, .int .i64 a1_1, .int .i64 a1_2]] (by rfl) rfl rfl (by (try simp only [List.map_toArray, List.map_cons, List.map_nil]); first | done | rfl | (simp only [List.length_drop, List.length_take]; rfl)) ?_
                       with_reducible refine (laws_toClue.calls a1_0 a1_1 a1_2 t234 t235 t236 _ A115.out).mono ?_
                       rintro e w129 ⟨rfl, hb⟩
                       refine ⟨_, rfl, ?_⟩
                       have n0_ := Aside0.mk (Kd.R_below (Xmv.rm HO_208000.out) hb); have n1_ := Aside0.mk (Kd.R_below (Xmv.rm HO_212000.out) hb); have n2_ := Aside0.mk (Kd.R_below (Xmv.rm HO_220000.out) hb); have n3_ := Aside0.mk (Kd.R_below (Xmv.rm HO233.out) hb); have n4_ := Aside0.mk (blk_below (g := gb194) (o := .cells #[.slice A0_0 l0_0.length c0_0] 40 (0, 0)) (Xmv.bm BK194.out) hb); have n5_ := Aside0.mk (blk_below (g := gb195) (o := .cells #[.int .i64 a1_0, .int .i64 a1_1, .int .i64 a1_2] 23 (0, 0)) (Xmv.bm BK195.out) hb); have n6_ := Aside0.mk (blk_below (g := gb207) (o := .cells #[.slice Ao29 t203.length co29] 45 (0, 0)) (Xmv.bm BK207.out) hb); have n7_ := Aside0.mk (blk_below (g := gb211) (o := .cells #[.slice Ao35 t226.length co35] 45 (0, 0)) (Xmv.bm BK211.out) hb); have n8_ := Aside0.mk (blk_below (g := gb219) (o := .cells #[.slice Ao46 t215.length co46] 45 (0, 0)) (Xmv.bm BK219.out) hb); have n9_ := Aside0.mk (blk_below (g := gb241) (o := .cells #[.slice none 0 0] 45 (0, 0)) (Xmv.bm BK241.out) hb); have n10_ := Aside0.mk (below_step Xmv.ub hb); clear HO_208000 HO_212000 HO_220000 HO233 BK194 BK195 BK207 BK211 BK219 BK241 HB; have HO_208000 := n0_; have HO_212000 := n1_; have HO_220000 := n2_; have HO233 := n3_; have BK194 := n4_; have BK195 := n5_; have BK207 := n6_; have BK211 := n7_; have BK219 := n8_; have BK241 := n9_; have HB := n10_; clear n0_ n1_ n2_ n3_ n4_ n5_ n6_ n7_ n8_ n9_ n10_; (try clear hb); (try clear hb2); (try clear hk); (try clear hi)
                       obtain ⟨Ao130, co130, eo130⟩ := Kd.R_slice HO233.out
                       (first | subst eo130 | (injection eo130 with f1_ f2_ f3_; have f4_ := f1_.symm; have f5_ := f3_.symm; clear f1_ f2_ f3_; subst f4_; subst f5_))
                       refine hK.out _ _ ⟨(blk_cell BK194.out 0).trans rfl, (blk_cell BK195.out 0).trans rfl, (blk_cell BK195.out 1).trans rfl, (blk_cell BK195.out 2).trans rfl⟩ (fun hHeld => ?_)
                       clear hK K
                       refine norm_ (a' := ?_) ?_ ?_
                       rotate_left
                       · show Act.put _ (some 83) _ = _
                         simp only [Act.put, List.setIfInBounds_toArray, List.set_cons_zero, List.set_cons_succ, i64_w, i32_w]
                         rfl
                       refine one_ (i := 4) (N := some 84) #[true, true, true, true, true, false, false, false, true, false, false] rfl rfl (one_of HT_.out (by kernel_rfl)) (by decide) (fun K hK => ?_)
                       refine goes_ Try.func37 (by kernel_rfl) rfl #[.agg #[.slice Ao130 t231.length co130], .agg #[.int .i64 t234, .int .i64 t235, .int .i64 t236]] (by rfl) rfl rfl (by (try simp only [List.map_toArray, List.map_cons, List.map_nil]); first | done | rfl | (simp only [List.length_drop, List.length_take]; rfl)) ?_
                       with_reducible refine (impl_AddClue.calls kj74 _ _ t231 t234 t235 t236 t237 t240 _ ?side1 ?side2 A116.out).mono ?_
                       (case side1 => repeat (first | exact (Kd.R_reads' HO233.out).2.2 | (with_reducible refine Kd.C_alloc ?_ _) | (with_reducible refine Kd.C_drewN ?_ _) | (with_reducible refine Kd.C_drew ?_)))
                       (case side2 => exact (Kd.R_reads' HO233.out).2.1)
                       rintro e w131 ⟨v238, rfl, ho0, hb⟩
                       refine ⟨_, rfl, ?_⟩
                       have n0_ := Aside0.mk (Kd.R_elder' (Xmv.rm HO_208000.out) (Kd.R_base ho0) hb); have n1_ := Aside0.mk (Kd.R_elder' (Xmv.rm HO_212000.out) (Kd.R_base ho0) hb); have n2_ := Aside0.mk (Kd.R_elder' (Xmv.rm HO_220000.out) (Kd.R_base ho0) hb); have n3_ := Aside0.mk (Kd.R_elder' (Xmv.rm HO233.out) (Kd.R_base ho0) hb); have n4_ := Aside0.mk (Kd.R_lower (Kd.R_new' (Kd.R_new' (Kd.R_new' (Kd.R_new' ho0 (Kd.R_lt (Xmv.rm HO_208000.out))) (Kd.R_lt (Xmv.rm HO_212000.out))) (Kd.R_lt (Xmv.rm HO_220000.out))) (Kd.R_lt (Xmv.rm HO233.out))) (below_size Xmv.ub)); have n5_ := Aside0.mk (blk_below (g := gb194) (o := .cells #[.slice A0_0 l0_0.length c0_0] 40 (0, 0)) (Xmv.bm BK194.out) hb); have n6_ := Aside0.mk (blk_below (g := gb195) (o := .cells #[.int .i64 a1_0, .int .i64 a1_1, .int .i64 a1_2] 23 (0, 0)) (Xmv.bm BK195.out) hb); have n7_ := Aside0.mk (blk_below (g := gb207) (o := .cells #[.slice Ao29 t203.length co29] 45 (0, 0)) (Xmv.bm BK207.out) hb); have n8_ := Aside0.mk (blk_below (g := gb211) (o := .cells #[.slice Ao35 t226.length co35] 45 (0, 0)) (Xmv.bm BK211.out) hb); have n9_ := Aside0.mk (blk_below (g := gb219) (o := .cells #[.slice Ao46 t215.length co46] 45 (0, 0)) (Xmv.bm BK219.out) hb); have n10_ := Aside0.mk (blk_below (g := gb241) (o := .cells #[.slice none 0 0] 45 (0, 0)) (Xmv.bm BK241.out) hb); have n11_ := Aside0.mk (below_step Xmv.ub hb); clear HO_208000 HO_212000 HO_220000 HO233 BK194 BK195 BK207 BK211 BK219 BK241 HB; have HO_208000 := n0_; have HO_212000 := n1_; have HO_220000 := n2_; have HO233 := n3_; have HO239 := n4_; have BK194 := n5_; have BK195 := n6_; have BK207 := n7_; have BK211 := n8_; have BK219 := n9_; have BK241 := n10_; have HB := n11_; clear n0_ n1_ n2_ n3_ n4_ n5_ n6_ n7_ n8_ n9_ n10_ n11_; (try clear hb); (try clear hb2); (try clear hk); (try clear hi); (try clear ho0)
                       refine hK.out _ _ ⟨(blk_cell BK194.out 0).trans rfl, (blk_cell BK195.out 0).trans rfl, (blk_cell BK195.out 1).trans rfl, (blk_cell BK195.out 2).trans rfl⟩ (fun hHeld => ?_)
                       clear hK K
                       refine norm_ (a' := ?_) ?_ ?_
                       rotate_left
                       · show Act.put _ (some 84) _ = _
                         simp only [Act.put, List.setIfInBounds_toArray, List.set_cons_zero, List.set_cons_succ, i64_w, i32_w]
                         rfl
                       refine pure_ (i := 5) (N := some 79) (v := ?_) (a' := ?_) #[true, true, true, true, true, true, false, false, true, false, false] rfl rfl (any_of HT_.out (by kernel_rfl)) (fun _ _ _ h => h) (Or.inl ⟨by rfl, ?_⟩) ?_ ?_
                       rotate_left
                       · intro w'
                         go_simp
                         with_reducible rfl
                       rotate_left
                       · simp only [Act.put, List.setIfInBounds_toArray, List.set_cons_zero, List.set_cons_succ, i64_w, i32_w]
                         rfl
                       refine pure_ (i := 6) (N := some 85) (v := ?_) (a' := ?_) #[true, true, true, true, true, true, true, false, true, false, false] rfl rfl (any_of HT_.out (by kernel_rfl)) (fun _ _ _ h => h) (Or.inl ⟨by rfl, ?_⟩) ?_ ?_
                       rotate_left
                       · intro w'
                         go_simp
                         with_reducible rfl
                       rotate_left
                       · simp only [Act.put, List.setIfInBounds_toArray, List.set_cons_zero, List.set_cons_succ, i64_w, i32_w]
                         rfl
                       refine pure_ (i := 7) (N := some 86) (v := ?_) (a' := ?_) #[true, true, true, true, true, true, true, true, true, false, false] rfl rfl (any_of HT_.out (by kernel_rfl)) (fun _ _ _ h => h) (Or.inl ⟨by rfl, ?_⟩) ?_ ?_
                       rotate_left
                       · intro w'
                         go_simp
                         with_reducible rfl
                       rotate_left
                       · simp only [Act.put, List.setIfInBounds_toArray, List.set_cons_zero, List.set_cons_succ, i64_w, i32_w]
                         rfl
                       exact norm_ (by simp only [putAll, Act.put, List.setIfInBounds_toArray, List.set_cons_zero, List.set_cons_succ]) (hCont (.slice Ao130 t231.length co130, v238, gb241) _ ⟨hHeld, (by (with_reducible repeat (first | apply Kd.R_alloc | apply Kd.R_drewN | apply Kd.R_drew)); exact Kd.R_mono HO233.out (fun _ hk => ⟨hk.2, ⟨hk.1.1.1.2, ⟨hk.1.1.2, hk.1.2⟩⟩⟩)), (by (with_reducible repeat (first | apply Kd.R_alloc | apply Kd.R_drewN | apply Kd.R_drew)); exact Kd.R_mono HO239.out (fun _ hk => ⟨hk.2, ⟨hk.1.1.1.2, ⟨hk.1.1.2, hk.1.2⟩⟩⟩)), (by (with_reducible repeat (first | apply Kd.R_alloc | apply Kd.R_drewN | apply Kd.R_drew)); exact Kd.R_mono HO_208000.out (fun _ hk => ⟨hk.1.2, ⟨hk.2, ⟨hk.1.1.1, hk.1.1.2⟩⟩⟩)), (by (with_reducible repeat (first | apply Kd.R_alloc | apply Kd.R_drewN | apply Kd.R_drew)); exact Kd.R_mono HO_212000.out (fun _ hk => ⟨hk.1.2, ⟨hk.2, ⟨hk.1.1.1, hk.1.1.2⟩⟩⟩)), (by (with_reducible repeat (first | apply Kd.R_alloc | apply Kd.R_drewN | apply Kd.R_drew)); exact Kd.R_mono HO_220000.out (fun _ hk => ⟨hk.1.2, ⟨hk.2, ⟨hk.1.1.1, hk.1.1.2⟩⟩⟩)), (Xmv.bm BK194.out), (Xmv.bm BK195.out), (Xmv.bm BK207.out), (Xmv.bm BK211.out), (Xmv.bm BK219.out), (Xmv.bm BK241.out), GW241.out, GE241.out, NB194_241.out, NB241_194.out, NB195_241.out, NB241_195.out, NB207_241.out, NB241_207.out, NB211_241.out, NB241_211.out, NB219_241.out, NB241_219.out, Xmv.ub⟩)
                   · skip
                     refine box_step ?hg (N := 14) ?hd (cs := #[.slice none 0 0]) (t := 45) ?hr ?_; (case hd => rfl); (case hg => rfl); (case hr => first | (go_simp; done) | (go_simp; rfl))
                     intro gb241 hg w127 hbox hb
                     have n0_ := Aside0.mk (Kd.R_below (Xmv.rm HO_208000.out) hb); have n1_ := Aside0.mk (Kd.R_below (Xmv.rm HO_212000.out) hb); have n2_ := Aside0.mk (Kd.R_below (Xmv.rm HO_220000.out) hb); have n3_ := Aside0.mk (blk_below (g := gb194) (o := .cells #[.slice A0_0 l0_0.length c0_0] 40 (0, 0)) (Xmv.bm BK194.out) hb); have n4_ := Aside0.mk (blk_below (g := gb195) (o := .cells #[.int .i64 a1_0, .int .i64 a1_1, .int .i64 a1_2] 23 (0, 0)) (Xmv.bm BK195.out) hb); have n5_ := Aside0.mk (blk_below (g := gb207) (o := .cells #[.slice Ao29 t203.length co29] 45 (0, 0)) (Xmv.bm BK207.out) hb); have n6_ := Aside0.mk (blk_below (g := gb211) (o := .cells #[.slice Ao35 t226.length co35] 45 (0, 0)) (Xmv.bm BK211.out) hb); have n7_ := Aside0.mk (blk_below (g := gb219) (o := .cells #[.slice Ao46 t215.length co46] 45 (0, 0)) (Xmv.bm BK219.out) hb); have n8_ := Aside0.mk (below_step Xmv.ub hb); have n9_ := Aside0.mk (hbox); have n10_ := Aside0.mk ((by rw [hg]; exact (below_size Xmv.ub) : w.heap.size ≤ gb241)); have n11_ := Aside0.mk ((by rw [hg]; exact (below_size Xmv.ub) : w.heap.size ≤ gb241)); have n12_ := Aside0.mk ((by rw [hg]; exact Nat.ne_of_lt (blk_lt (g := gb194) (o := .cells #[.slice A0_0 l0_0.length c0_0] 40 (0, 0)) (Xmv.bm BK194.out)) : gb194 ≠ gb241)); have n13_ := Aside0.mk ((by rw [hg]; exact Nat.ne_of_gt (blk_lt (g := gb194) (o := .cells #[.slice A0_0 l0_0.length c0_0] 40 (0, 0)) (Xmv.bm BK194.out)) : gb241 ≠ gb194)); have n14_ := Aside0.mk ((by rw [hg]; exact Nat.ne_of_lt (blk_lt (g := gb195) (o := .cells #[.int .i64 a1_0, .int .i64 a1_1, .int .i64 a1_2] 23 (0, 0)) (Xmv.bm BK195.out)) : gb195 ≠ gb241)); have n15_ := Aside0.mk ((by rw [hg]; exact Nat.ne_of_gt (blk_lt (g := gb195) (o := .cells #[.int .i64 a1_0, .int .i64 a1_1, .int .i64 a1_2] 23 (0, 0)) (Xmv.bm BK195.out)) : gb241 ≠ gb195)); have n16_ := Aside0.mk ((by rw [hg]; exact Nat.ne_of_lt (blk_lt (g := gb207) (o := .cells #[.slice Ao29 t203.length co29] 45 (0, 0)) (Xmv.bm BK207.out)) : gb207 ≠ gb241)); have n17_ := Aside0.mk ((by rw [hg]; exact Nat.ne_of_gt (blk_lt (g := gb207) (o := .cells #[.slice Ao29 t203.length co29] 45 (0, 0)) (Xmv.bm BK207.out)) : gb241 ≠ gb207)); have n18_ := Aside0.mk ((by rw [hg]; exact Nat.ne_of_lt (blk_lt (g := gb211) (o := .cells #[.slice Ao35 t226.length co35] 45 (0, 0)) (Xmv.bm BK211.out)) : gb211 ≠ gb241)); have n19_ := Aside0.mk ((by rw [hg]; exact Nat.ne_of_gt (blk_lt (g := gb211) (o := .cells #[.slice Ao35 t226.length co35] 45 (0, 0)) (Xmv.bm BK211.out)) : gb241 ≠ gb211)); have n20_ := Aside0.mk ((by rw [hg]; exact Nat.ne_of_lt (blk_lt (g := gb219) (o := .cells #[.slice Ao46 t215.length co46] 45 (0, 0)) (Xmv.bm BK219.out)) : gb219 ≠ gb241)); have n21_ := Aside0.mk ((by rw [hg]; exact Nat.ne_of_gt (blk_lt (g := gb219) (o := .cells #[.slice Ao46 t215.length co46] 45 (0, 0)) (Xmv.bm BK219.out)) : gb241 ≠ gb219)); clear HO_208000 HO_212000 HO_220000 BK194 BK195 BK207 BK211 BK219 HB; have HO_208000 := n0_; have HO_212000 := n1_; have HO_220000 := n2_; have BK194 := n3_; have BK195 := n4_; have BK207 := n5_; have BK211 := n6_; have BK219 := n7_; have HB := n8_; have BK241 := n9_; have GW241 := n10_; have GE241 := n11_; have NB194_241 := n12_; have NB241_194 := n13_; have NB195_241 := n14_; have NB241_195 := n15_; have NB207_241 := n16_; have NB241_207 := n17_; have NB211_241 := n18_; have NB241_211 := n19_; have NB219_241 := n20_; have NB241_219 := n21_; clear n0_ n1_ n2_ n3_ n4_ n5_ n6_ n7_ n8_ n9_ n10_ n11_ n12_ n13_ n14_ n15_ n16_ n17_ n18_ n19_ n20_ n21_ hb hbox hg
                     refine hK.out _ _ ⟨(blk_cell BK194.out 0).trans rfl, (blk_cell BK195.out 0).trans rfl, (blk_cell BK195.out 1).trans rfl, (blk_cell BK195.out 2).trans rfl⟩ (fun hHeld => ?_)
                     clear hK K
                     refine norm_ (a' := ?_) ?_ ?_
                     rotate_left
                     · show Act.put _ (some 14) _ = _
                       simp only [Act.put, List.setIfInBounds_toArray, List.set_cons_zero, List.set_cons_succ, i64_w, i32_w]
                       rfl
                     refine one_ (i := 1) (N := some 81) #[true, true, true, false, false, false, false, false, true, false, false] rfl rfl (one_of HT_.out (by kernel_rfl)) (by decide) (fun K hK => ?_)
                     refine goes_ Try.func29 (by kernel_rfl) rfl #[.agg #[.slice A0_0 l0_0.length c0_0]] (by rfl) rfl rfl (by (try simp only [List.map_toArray, List.map_cons, List.map_nil]); first | done | rfl | (simp only [List.length_drop, List.length_take]; rfl)) ?_
                     with_reducible refine (laws_toPuzzle.calls kj74 _ _ l0_0 t231 _ ?side1 ?side2 A114.out).mono ?_
                     (case side1 => repeat (first | exact (Kd.C_below HR0_0.out HB.out) | (with_reducible refine Kd.C_alloc ?_ _) | (with_reducible refine Kd.C_drewN ?_ _) | (with_reducible refine Kd.C_drew ?_)))
                     (case side2 => exact HC0_0.out)
                     rintro e w128 ⟨v232, rfl, ho0, hb⟩
                     refine ⟨_, rfl, ?_⟩
                     have n0_ := Aside0.mk (Kd.R_elder' (Xmv.rm HO_208000.out) (Kd.R_base ho0) hb); have n1_ := Aside0.mk (Kd.R_elder' (Xmv.rm HO_212000.out) (Kd.R_base ho0) hb); have n2_ := Aside0.mk (Kd.R_elder' (Xmv.rm HO_220000.out) (Kd.R_base ho0) hb); have n3_ := Aside0.mk (Kd.R_lower (Kd.R_new' (Kd.R_new' (Kd.R_new' ho0 (Kd.R_lt (Xmv.rm HO_208000.out))) (Kd.R_lt (Xmv.rm HO_212000.out))) (Kd.R_lt (Xmv.rm HO_220000.out))) (below_size Xmv.ub)); have n4_ := Aside0.mk (blk_below (g := gb194) (o := .cells #[.slice A0_0 l0_0.length c0_0] 40 (0, 0)) (Xmv.bm BK194.out) hb); have n5_ := Aside0.mk (blk_below (g := gb195) (o := .cells #[.int .i64 a1_0, .int .i64 a1_1, .int .i64 a1_2] 23 (0, 0)) (Xmv.bm BK195.out) hb); have n6_ := Aside0.mk (blk_below (g := gb207) (o := .cells #[.slice Ao29 t203.length co29] 45 (0, 0)) (Xmv.bm BK207.out) hb); have n7_ := Aside0.mk (blk_below (g := gb211) (o := .cells #[.slice Ao35 t226.length co35] 45 (0, 0)) (Xmv.bm BK211.out) hb); have n8_ := Aside0.mk (blk_below (g := gb219) (o := .cells #[.slice Ao46 t215.length co46] 45 (0, 0)) (Xmv.bm BK219.out) hb); have n9_ := Aside0.mk (blk_below (g := gb241) (o := .cells #[.slice none 0 0] 45 (0, 0)) (Xmv.bm BK241.out) hb); have n10_ := Aside0.mk (below_step Xmv.ub hb); clear HO_208000 HO_212000 HO_220000 BK194 BK195 BK207 BK211 BK219 BK241 HB; have HO_208000 := n0_; have HO_212000 := n1_; have HO_220000 := n2_; have HO233 := n3_; have BK194 := n4_; have BK195 := n5_; have BK207 := n6_; have BK211 := n7_; have BK219 := n8_; have BK241 := n9_; have HB := n10_; clear n0_ n1_ n2_ n3_ n4_ n5_ n6_ n7_ n8_ n9_ n10_; (try clear hb); (try clear hb2); (try clear hk); (try clear hi); (try clear ho0)
                     refine hK.out _ _ ⟨(blk_cell BK194.out 0).trans rfl, (blk_cell BK195.out 0).trans rfl, (blk_cell BK195.out 1).trans rfl, (blk_cell BK195.out 2).trans rfl⟩ (fun hHeld => ?_)
                     clear hK K
                     refine norm_ (a' := ?_) ?_ ?_
                     rotate_left
                     · show Act.put _ (some 81) _ = _
                       simp only [Act.put, List.setIfInBounds_toArray, List.set_cons_zero, List.set_cons_succ, i64_w, i32_w]
                       rfl
                     refine one_ (i := 3) (N := some 83) #[true, true, true, true, false, false, false, false, true, false, false] rfl rfl (one_of HT_.out (by kernel_rfl)) (by decide) (fun K hK => ?_)
                     refine goes_ Try.func16 (by kernel_rfl) rfl #[.agg #[.int .i64 a1_0, .int .i64 a1_1, .int .i64 a1_2]] (by rfl) rfl rfl (by (try simp only [List.map_toArray, List.map_cons, List.map_nil]); first | done | rfl | (simp only [List.length_drop, List.length_take]; rfl)) ?_
                     with_reducible refine (laws_toClue.calls a1_0 a1_1 a1_2 t234 t235 t236 _ A115.out).mono ?_
                     rintro e w129 ⟨rfl, hb⟩
                     refine ⟨_, rfl, ?_⟩
                     have n0_ := Aside0.mk (Kd.R_below (Xmv.rm HO_208000.out) hb); have n1_ := Aside0.mk (Kd.R_below (Xmv.rm HO_212000.out) hb); have n2_ := Aside0.mk (Kd.R_below (Xmv.rm HO_220000.out) hb); have n3_ := Aside0.mk (Kd.R_below (Xmv.rm HO233.out) hb); have n4_ := Aside0.mk (blk_below (g := gb194) (o := .cells #[.slice A0_0 l0_0.length c0_0] 40 (0, 0)) (Xmv.bm BK194.out) hb); have n5_ := Aside0.mk (blk_below (g := gb195) (o := .cells #[.int .i64 a1_0, .int .i64 a1_1, .int .i64 a1_2] 23 (0, 0)) (Xmv.bm BK195.out) hb); have n6_ := Aside0.mk (blk_below (g := gb207) (o := .cells #[.slice Ao29 t203.length co29] 45 (0, 0)) (Xmv.bm BK207.out) hb); have n7_ := Aside0.mk (blk_below (g := gb211) (o := .cells #[.slice Ao35 t226.length co35] 45 (0, 0)) (Xmv.bm BK211.out) hb); have n8_ := Aside0.mk (blk_below (g := gb219) (o := .cells #[.slice Ao46 t215.length co46] 45 (0, 0)) (Xmv.bm BK219.out) hb); have n9_ := Aside0.mk (blk_below (g := gb241) (o := .cells #[.slice none 0 0] 45 (0, 0)) (Xmv.bm BK241.out) hb); have n10_ := Aside0.mk (below_step Xmv.ub hb); clear HO_208000 HO_212000 HO_220000 HO233 BK194 BK195 BK207 BK211 BK219 BK241 HB; have HO_208000 := n0_; have HO_212000 := n1_; have HO_220000 := n2_; have HO233 := n3_; have BK194 := n4_; have BK195 := n5_; have BK207 := n6_; have BK211 := n7_; have BK219 := n8_; have BK241 := n9_; have HB := n10_; clear n0_ n1_ n2_ n3_ n4_ n5_ n6_ n7_ n8_ n9_ n10_; (try clear hb); (try clear hb2); (try clear hk); (try clear hi)
                     obtain ⟨Ao130, co130, eo130⟩ := Kd.R_slice HO233.out
                     (first | subst eo130 | (injection eo130 with f1_ f2_ f3_; have f4_ := f1_.symm; have f5_ := f3_.symm; clear f1_ f2_ f3_; subst f4_; subst f5_))
                     refine hK.out _ _ ⟨(blk_cell BK194.out 0).trans rfl, (blk_cell BK195.out 0).trans rfl, (blk_cell BK195.out 1).trans rfl, (blk_cell BK195.out 2).trans rfl⟩ (fun hHeld => ?_)
                     clear hK K
                     refine norm_ (a' := ?_) ?_ ?_
                     rotate_left
                     · show Act.put _ (some 83) _ = _
                       simp only [Act.put, List.setIfInBounds_toArray, List.set_cons_zero, List.set_cons_succ, i64_w, i32_w]
                       rfl
                     refine one_ (i := 4) (N := some 84) #[true, true, true, true, true, false, false, false, true, false, false] rfl rfl (one_of HT_.out (by kernel_rfl)) (by decide) (fun K hK => ?_)
                     refine goes_ Try.func37 (by kernel_rfl) rfl #[.agg #[.slice Ao130 t231.length co130], .agg #[.int .i64 t234, .int .i64 t235, .int .i64 t236]] (by rfl) rfl rfl (by (try simp only [List.map_toArray, List.map_cons, List.map_nil]); first | done | rfl | (simp only [List.length_drop, List.length_take]; rfl)) ?_
                     with_reducible refine (impl_AddClue.calls kj74 _ _ t231 t234 t235 t236 t237 t240 _ ?side1 ?side2 A116.out).mono ?_
                     (case side1 => repeat (first | exact (Kd.R_reads' HO233.out).2.2 | (with_reducible refine Kd.C_alloc ?_ _) | (with_reducible refine Kd.C_drewN ?_ _) | (with_reducible refine Kd.C_drew ?_)))
                     (case side2 => exact (Kd.R_reads' HO233.out).2.1)
                     rintro e w131 ⟨v238, rfl, ho0, hb⟩
                     refine ⟨_, rfl, ?_⟩
                     have n0_ := Aside0.mk (Kd.R_elder' (Xmv.rm HO_208000.out) (Kd.R_base ho0) hb); have n1_ := Aside0.mk (Kd.R_elder' (Xmv.rm HO_212000.out) (Kd.R_base ho0) hb); have n2_ := Aside0.mk (Kd.R_elder' (Xmv.rm HO_220000.out) (Kd.R_base ho0) hb); have n3_ := Aside0.mk (Kd.R_elder' (Xmv.rm HO233.out) (Kd.R_base ho0) hb); have n4_ := Aside0.mk (Kd.R_lower (Kd.R_new' (Kd.R_new' (Kd.R_new' (Kd.R_new' ho0 (Kd.R_lt (Xmv.rm HO_208000.out))) (Kd.R_lt (Xmv.rm HO_212000.out))) (Kd.R_lt (Xmv.rm HO_220000.out))) (Kd.R_lt (Xmv.rm HO233.out))) (below_size Xmv.ub)); have n5_ := Aside0.mk (blk_below (g := gb194) (o := .cells #[.slice A0_0 l0_0.length c0_0] 40 (0, 0)) (Xmv.bm BK194.out) hb); have n6_ := Aside0.mk (blk_below (g := gb195) (o := .cells #[.int .i64 a1_0, .int .i64 a1_1, .int .i64 a1_2] 23 (0, 0)) (Xmv.bm BK195.out) hb); have n7_ := Aside0.mk (blk_below (g := gb207) (o := .cells #[.slice Ao29 t203.length co29] 45 (0, 0)) (Xmv.bm BK207.out) hb); have n8_ := Aside0.mk (blk_below (g := gb211) (o := .cells #[.slice Ao35 t226.length co35] 45 (0, 0)) (Xmv.bm BK211.out) hb); have n9_ := Aside0.mk (blk_below (g := gb219) (o := .cells #[.slice Ao46 t215.length co46] 45 (0, 0)) (Xmv.bm BK219.out) hb); have n10_ := Aside0.mk (blk_below (g := gb241) (o := .cells #[.slice none 0 0] 45 (0, 0)) (Xmv.bm BK241.out) hb); have n11_ := Aside0.mk (below_step Xmv.ub hb); clear HO_208000 HO_212000 HO_220000 HO233 BK194 BK195 BK207 BK211 BK219 BK241 HB; have HO_208000 := n0_; have HO_212000 := n1_; have HO_220000 := n2_; have HO233 := n3_; have HO239 := n4_; have BK194 := n5_; have BK195 := n6_; have BK207 := n7_; have BK211 := n8_; have BK219 := n9_; have BK241 := n10_; have HB := n11_; clear n0_ n1_ n2_ n3_ n4_ n5_ n6_ n7_ n8_ n9_ n10_ n11_; (try clear hb); (try clear hb2); (try clear hk); (try clear hi); (try clear ho0)
                     refine hK.out _ _ ⟨(blk_cell BK194.out 0).trans rfl, (blk_cell BK195.out 0).trans rfl, (blk_cell BK195.out 1).trans rfl, (blk_cell BK195.out 2).trans rfl⟩ (fun hHeld => ?_)
                     clear hK K
                     refine norm_ (a' := ?_) ?_ ?_
                     rotate_left
                     · show Act.put _ (some 84) _ = _
                       simp only [Act.put, List.setIfInBounds_toArray, List.set_cons_zero, List.set_cons_succ, i64_w, i32_w]
                       rfl
                     refine pure_ (i := 5) (N := some 79) (v := ?_) (a' := ?_) #[true, true, true, true, true, true, false, false, true, false, false] rfl rfl (any_of HT_.out (by kernel_rfl)) (fun _ _ _ h => h) (Or.inl ⟨by rfl, ?_⟩) ?_ ?_
                     rotate_left
                     · intro w'
                       go_simp
                       with_reducible rfl
                     rotate_left
                     · simp only [Act.put, List.setIfInBounds_toArray, List.set_cons_zero, List.set_cons_succ, i64_w, i32_w]
                       rfl
                     refine pure_ (i := 6) (N := some 85) (v := ?_) (a' := ?_) #[true, true, true, true, true, true, true, false, true, false, false] rfl rfl (any_of HT_.out (by kernel_rfl)) (fun _ _ _ h => h) (Or.inl ⟨by rfl, ?_⟩) ?_ ?_
                     rotate_left
                     · intro w'
                       go_simp
                       with_reducible rfl
                     rotate_left
                     · simp only [Act.put, List.setIfInBounds_toArray, List.set_cons_zero, List.set_cons_succ, i64_w, i32_w]
                       rfl
                     refine pure_ (i := 7) (N := some 86) (v := ?_) (a' := ?_) #[true, true, true, true, true, true, true, true, true, false, false] rfl rfl (any_of HT_.out (by kernel_rfl)) (fun _ _ _ h => h) (Or.inl ⟨by rfl, ?_⟩) ?_ ?_
                     rotate_left
                     · intro w'
                       go_simp
                       with_reducible rfl
                     rotate_left
                     · simp only [Act.put, List.setIfInBounds_toArray, List.set_cons_zero, List.set_cons_succ, i64_w, i32_w]
                       rfl
                     exact norm_ (by simp only [putAll, Act.put, List.setIfInBounds_toArray, List.set_cons_zero, List.set_cons_succ]) (hCont (.slice Ao130 t231.length co130, v238, gb241) _ ⟨hHeld, (by (with_reducible repeat (first | apply Kd.R_alloc | apply Kd.R_drewN | apply Kd.R_drew)); exact Kd.R_mono HO233.out (fun _ hk => ⟨hk.2, ⟨hk.1.1.1.2, ⟨hk.1.1.2, hk.1.2⟩⟩⟩)), (by (with_reducible repeat (first | apply Kd.R_alloc | apply Kd.R_drewN | apply Kd.R_drew)); exact Kd.R_mono HO239.out (fun _ hk => ⟨hk.2, ⟨hk.1.1.1.2, ⟨hk.1.1.2, hk.1.2⟩⟩⟩)), (by (with_reducible repeat (first | apply Kd.R_alloc | apply Kd.R_drewN | apply Kd.R_drew)); exact Kd.R_mono HO_208000.out (fun _ hk => ⟨hk.1.2, ⟨hk.2, ⟨hk.1.1.1, hk.1.1.2⟩⟩⟩)), (by (with_reducible repeat (first | apply Kd.R_alloc | apply Kd.R_drewN | apply Kd.R_drew)); exact Kd.R_mono HO_212000.out (fun _ hk => ⟨hk.1.2, ⟨hk.2, ⟨hk.1.1.1, hk.1.1.2⟩⟩⟩)), (by (with_reducible repeat (first | apply Kd.R_alloc | apply Kd.R_drewN | apply Kd.R_drew)); exact Kd.R_mono HO_220000.out (fun _ hk => ⟨hk.1.2, ⟨hk.2, ⟨hk.1.1.1, hk.1.1.2⟩⟩⟩)), (Xmv.bm BK194.out), (Xmv.bm BK195.out), (Xmv.bm BK207.out), (Xmv.bm BK211.out), (Xmv.bm BK219.out), (Xmv.bm BK241.out), GW241.out, GE241.out, NB194_241.out, NB241_194.out, NB195_241.out, NB241_195.out, NB207_241.out, NB241_207.out, NB211_241.out, NB241_211.out, NB219_241.out, NB241_219.out, Xmv.ub⟩)
                 rintro ⟨v232, v238, gb241⟩ w132 ⟨hS_, h0_, h1_, h2_, h3_, h4_, h5_, h6_, h7_, h8_, h9_, h10_, h11_, h12_, h13_, h14_, h15_, h16_, h17_, h18_, h19_, h20_, h21_, h22_, h23_⟩
                 have n0_ : Aside0 (Kd.R k25 25 w132 w.heap.size (fun k_ => some k_ ≠ (v238 : Value).ownBlock ∧ some k_ ≠ (.slice Ao29 t203.length co29 : Value).ownBlock ∧ some k_ ≠ (.slice Ao35 t226.length co35 : Value).ownBlock ∧ some k_ ≠ (.slice Ao46 t215.length co46 : Value).ownBlock) v232 t231) := ⟨h0_⟩
                 have n1_ : Aside0 (Kd.R k25 25 w132 w.heap.size (fun k_ => some k_ ≠ (v232 : Value).ownBlock ∧ some k_ ≠ (.slice Ao29 t203.length co29 : Value).ownBlock ∧ some k_ ≠ (.slice Ao35 t226.length co35 : Value).ownBlock ∧ some k_ ≠ (.slice Ao46 t215.length co46 : Value).ownBlock) v238 t237) := ⟨h1_⟩
                 have n2_ : Aside0 (Kd.R k25 25 w132 w.heap.size (fun k_ => some k_ ≠ (v232 : Value).ownBlock ∧ some k_ ≠ (v238 : Value).ownBlock ∧ some k_ ≠ (.slice Ao35 t226.length co35 : Value).ownBlock ∧ some k_ ≠ (.slice Ao46 t215.length co46 : Value).ownBlock) (.slice Ao29 t203.length co29) t203) := ⟨h2_⟩
                 have n3_ : Aside0 (Kd.R k25 25 w132 w.heap.size (fun k_ => some k_ ≠ (v232 : Value).ownBlock ∧ some k_ ≠ (v238 : Value).ownBlock ∧ some k_ ≠ (.slice Ao29 t203.length co29 : Value).ownBlock ∧ some k_ ≠ (.slice Ao46 t215.length co46 : Value).ownBlock) (.slice Ao35 t226.length co35) t226) := ⟨h3_⟩
                 have n4_ : Aside0 (Kd.R k25 25 w132 w.heap.size (fun k_ => some k_ ≠ (v232 : Value).ownBlock ∧ some k_ ≠ (v238 : Value).ownBlock ∧ some k_ ≠ (.slice Ao29 t203.length co29 : Value).ownBlock ∧ some k_ ≠ (.slice Ao35 t226.length co35 : Value).ownBlock) (.slice Ao46 t215.length co46) t229) := ⟨h4_⟩
                 have n5_ : Aside0 (w132.heap[gb194]? = some (.cells #[.slice A0_0 l0_0.length c0_0] 40 (0, 0))) := ⟨h5_⟩
                 have n6_ : Aside0 (w132.heap[gb195]? = some (.cells #[.int .i64 a1_0, .int .i64 a1_1, .int .i64 a1_2] 23 (0, 0))) := ⟨h6_⟩
                 have n7_ : Aside0 (w132.heap[gb207]? = some (.cells #[.slice Ao29 t203.length co29] 45 (0, 0))) := ⟨h7_⟩
                 have n8_ : Aside0 (w132.heap[gb211]? = some (.cells #[.slice Ao35 t226.length co35] 45 (0, 0))) := ⟨h8_⟩
                 have n9_ : Aside0 (w132.heap[gb219]? = some (.cells #[.slice Ao46 t215.length co46] 45 (0, 0))) := ⟨h9_⟩
                 have n10_ : Aside0 (w132.heap[gb241]? = some (.cells #[.slice none 0 0] 45 (0, 0))) := ⟨h10_⟩
                 have n11_ : Aside0 (w.heap.size ≤ gb241) := ⟨h11_⟩
                 have n12_ : Aside0 (w.heap.size ≤ gb241) := ⟨h12_⟩
                 have n13_ : Aside0 (gb194 ≠ gb241) := ⟨h13_⟩
                 have n14_ : Aside0 (gb241 ≠ gb194) := ⟨h14_⟩
                 have n15_ : Aside0 (gb195 ≠ gb241) := ⟨h15_⟩
                 have n16_ : Aside0 (gb241 ≠ gb195) := ⟨h16_⟩
                 have n17_ : Aside0 (gb207 ≠ gb241) := ⟨h17_⟩
                 have n18_ : Aside0 (gb241 ≠ gb207) := ⟨h18_⟩
                 have n19_ : Aside0 (gb211 ≠ gb241) := ⟨h19_⟩
                 have n20_ : Aside0 (gb241 ≠ gb211) := ⟨h20_⟩
                 have n21_ : Aside0 (gb219 ≠ gb241) := ⟨h21_⟩
                 have n22_ : Aside0 (gb241 ≠ gb219) := ⟨h22_⟩
                 have n23_ : Aside0 (Below w.heap.size w w132) := ⟨h23_⟩
                 clear HO_208000; clear HO_212000 HO_220000 BK194 BK195 BK207 BK211 BK219 HB h0_ h1_ h2_ h3_ h4_ h5_ h6_ h7_ h8_ h9_ h10_ h11_ h12_ h13_ h14_ h15_ h16_ h17_ h18_ h19_ h20_ h21_ h22_ h23_; have HO233 := n0_; have HO239 := n1_; have HO_208000 := n2_; have HO_212000 := n3_; have HO_220000 := n4_; have BK194 := n5_; have BK195 := n6_; have BK207 := n7_; have BK211 := n8_; have BK219 := n9_; have BK241 := n10_; have GW241 := n11_; have GE241 := n12_; have NB194_241 := n13_; have NB241_194 := n14_; have NB195_241 := n15_; have NB241_195 := n16_; have NB207_241 := n17_; have NB241_207 := n18_; have NB211_241 := n19_; have NB241_211 := n20_; have NB219_241 := n21_; have NB241_219 := n22_; have HB := n23_; clear n0_ n1_ n2_ n3_ n4_ n5_ n6_ n7_ n8_ n9_ n10_ n11_ n12_ n13_ n14_ n15_ n16_ n17_ n18_ n19_ n20_ n21_ n22_ n23_
                 have hHeld : w132.cell? ⟨gb194, 0, none⟩ = some (.slice A0_0 l0_0.length c0_0) ∧ w132.cell? ⟨gb195, 0, none⟩ = some (.int .i64 a1_0) ∧ w132.cell? ⟨gb195, 1, none⟩ = some (.int .i64 a1_1) ∧ w132.cell? ⟨gb195, 2, none⟩ = some (.int .i64 a1_2) := hS_
                 obtain ⟨Ao133, co133, eo133⟩ := Kd.R_slice HO239.out
                 (first | subst eo133 | (injection eo133 with f1_ f2_ f3_; have f4_ := f1_.symm; have f5_ := f3_.symm; clear f1_ f2_ f3_; subst f4_; subst f5_))
                 refine norm_ (a' := ?_) ?_ ?_
                 rotate_left
                 · simp only [putAll, Act.put, List.setIfInBounds_toArray, List.set_cons_zero, List.set_cons_succ]
                   rfl
                 refine one_ (i := 9) (N := none) #[true, true, true, true, true, true, true, true, true, true, false] rfl rfl (one_of HT_.out (by kernel_rfl)) (by decide) (fun K hK => ?_)
                 have hs134 : w132.cell? ⟨gb241, 0, none⟩ = some (.slice none 0 0) := (blk_cell BK241.out 0).trans rfl
                 have hfs134 := blk_frozen BK241.out 0
                 have hns134_0 := NB194_241.out
                 have hns134_1 := NB195_241.out
                 have hns134_2 := NB207_241.out
                 have hns134_3 := NB211_241.out
                 have hns134_4 := NB219_241.out
                 have hms134_0 := NB241_194.out
                 have hms134_1 := NB241_195.out
                 have hms134_2 := NB241_207.out
                 have hms134_3 := NB241_211.out
                 have hms134_4 := NB241_219.out
                 refine skip_ (w1 := ?_) (by rfl) rfl ?_ ?_
                 rotate_left
                 · go_simp
                   rfl
                 refine hK.out _ _ ⟨((cell_far (p := ⟨gb241, _, none⟩) NB194_241.out _).trans (hHeld.1)), ((cell_far (p := ⟨gb241, _, none⟩) NB195_241.out _).trans (hHeld.2.1)), ((cell_far (p := ⟨gb241, _, none⟩) NB195_241.out _).trans (hHeld.2.2.1)), ((cell_far (p := ⟨gb241, _, none⟩) NB195_241.out _).trans (hHeld.2.2.2))⟩ (fun hHeld => ?_)
                 clear hK K
                 refine pure_ (i := 10) (N := some 15) (v := ?_) (a' := ?_) #[true, true, true, true, true, true, true, true, true, true, true] rfl rfl (any_of HT_.out (by kernel_rfl)) (fun _ _ _ h => h) (Or.inl ⟨by rfl, ?_⟩) ?_ ?_
                 rotate_left
                 · intro w'
                   go_simp
                   with_reducible rfl
                 rotate_left
                 · simp only [Act.put, List.setIfInBounds_toArray, List.set_cons_zero, List.set_cons_succ, i64_w, i32_w]
                   rfl
                 refine done_ (done_of HT_.out (by kernel_rfl)) ?_
                 go_upto_region 25 with (fail)
                 go_cut [95] (fun v95 wc => ∃ (kq : Nat) (x95_116 : Bool), v95 = .bool x95_116 ∧ Aside0 (laws_FnExactAddClue.j2 kq t228 x95_116 t229 = some r) ∧ Aside0 (kq ≤ kj74) ∧ Aside0 (Kd.R k25 25 wc w.heap.size (fun k_ => some k_ ≠ ((.slice Ao35 t226.length co35) : Value).ownBlock ∧ some k_ ≠ ((.slice Ao46 t215.length co46) : Value).ownBlock ∧ some k_ ≠ ((.slice Ao133 t237.length co133) : Value).ownBlock) (.slice Ao29 t203.length co29) t203) ∧ Aside0 (Kd.R k25 25 wc w.heap.size (fun k_ => some k_ ≠ ((.slice Ao29 t203.length co29) : Value).ownBlock ∧ some k_ ≠ ((.slice Ao46 t215.length co46) : Value).ownBlock ∧ some k_ ≠ ((.slice Ao133 t237.length co133) : Value).ownBlock) (.slice Ao35 t226.length co35) t226) ∧ Aside0 (Kd.R k25 25 wc w.heap.size (fun k_ => some k_ ≠ ((.slice Ao29 t203.length co29) : Value).ownBlock ∧ some k_ ≠ ((.slice Ao35 t226.length co35) : Value).ownBlock ∧ some k_ ≠ ((.slice Ao133 t237.length co133) : Value).ownBlock) (.slice Ao46 t215.length co46) t229) ∧ Aside0 (Kd.R k25 25 wc w.heap.size (fun k_ => some k_ ≠ ((.slice Ao29 t203.length co29) : Value).ownBlock ∧ some k_ ≠ ((.slice Ao35 t226.length co35) : Value).ownBlock ∧ some k_ ≠ ((.slice Ao46 t215.length co46) : Value).ownBlock) (.slice Ao133 t237.length co133) t237) ∧ Aside0 (wc.heap[gb194]? = some (.cells #[(.slice A0_0 l0_0.length c0_0)] 40 (0, 0))) ∧ Aside0 (wc.heap[gb195]? = some (.cells #[.int .i64 a1_0, .int .i64 a1_1, .int .i64 a1_2] 23 (0, 0))) ∧ Aside0 (wc.heap[gb207]? = some (.cells #[(.slice Ao29 t203.length co29)] 45 (0, 0))) ∧ Aside0 (wc.heap[gb211]? = some (.cells #[(.slice Ao35 t226.length co35)] 45 (0, 0))) ∧ Aside0 (wc.heap[gb219]? = some (.cells #[(.slice Ao46 t215.length co46)] 45 (0, 0))) ∧ Aside0 (wc.heap[gb241]? = some (.cells #[(.slice Ao133 t237.length co133)] 45 (0, 0))) ∧ Aside0 (Below w.heap.size w wc))
                 case first =>
                  have H := HC117.out
                  clear HC117
                  replace H := Option.bind_eq_some_iff.mp H
                  obtain ⟨t242, A1350, H⟩ := H
                  replace H : (if t242 = true then (laws_FnExactAddClue.j2 kj74 t228 (t240 != t206) t229) else (laws_FnExactAddClue.j2 kj74 t228 true t229)) = some r := H
                  have A135 := Aside0.mk A1350
                  clear A1350
                  by_cases c136 : t242 = true
                  · subst c136
                    have H1 : (laws_FnExactAddClue.j2 kj74 t228 (t240 != t206) t229) = some r := by rw [if_pos rfl] at H; exact H
                    clear H
                    have H := H1
                    clear H1
                    have H' := Aside0.mk H
                    clear H
                    have hnb137 := NB241_194.out
                    have hnc137 := NB194_241.out
                    have hnb138 := NB241_195.out
                    have hnc138 := NB195_241.out
                    have hnb139 := NB241_207.out
                    have hnc139 := NB207_241.out
                    have hnb140 := NB241_211.out
                    have hnc140 := NB211_241.out
                    have hnb141 := NB241_219.out
                    have hnc141 := NB219_241.out
                    have hcz142_0 : w132.cell? ⟨gb241, 0, none⟩ = some (.slice none 0 0) := (blk_cell BK241.out 0).trans rfl
                    have hfz142_0 := blk_frozen BK241.out 0
                    have hnb143 := NB207_194.out
                    have hnc143 := NB194_207.out
                    have hnb144 := NB207_195.out
                    have hnc144 := NB195_207.out
                    have hnb145 := NB207_211.out
                    have hnc145 := NB211_207.out
                    have hnb146 := NB207_219.out
                    have hnc146 := NB219_207.out
                    have hcz147_0 : w132.cell? ⟨gb207, 0, none⟩ = some (.slice Ao29 t203.length co29) := (blk_cell BK207.out 0).trans rfl
                    have hfz147_0 := blk_frozen BK207.out 0
                    go_wp2_with (first | ((with_reducible refine gate_callee (f := 31) rfl ?_); refine goesL_ (some 89) rfl rfl Try.func31 (by kernel_rfl) rfl #[.agg #[.slice Ao133 t237.length co133], .agg #[.slice Ao29 t203.length co29]] rfl (by (try simp only [List.map_toArray, List.map_cons, List.map_nil]); first | done | rfl | (simp only [List.length_drop, List.length_take]; rfl)) ?_; (with_reducible refine (laws_eqPuzzle.calls kj74 _ _ t237 _ _ t203 true _ ?side1 ?side2 ?side3 ?side4 A135.out).mono ?_); (case side1 => refine (Kd.R_reads' (e := 25) (base := w.heap.size) (ok := fun k_ => (some k_ ≠ (v232 : Value).ownBlock ∧ (some k_ ≠ (.slice Ao29 t203.length co29 : Value).ownBlock ∧ (some k_ ≠ (.slice Ao35 t226.length co35 : Value).ownBlock ∧ some k_ ≠ (.slice Ao46 t215.length co46 : Value).ownBlock)))) (n := t237.length) (c := co133) ?_).2.2; exact (by (with_reducible repeat (first | apply Kd.R_alloc | apply Kd.R_drewN | apply Kd.R_drew)); exact (Kd.R_mono (Kd.R_far (p := ⟨gb241, 0, none⟩) (Kd.R_types HO239.out BK241.out (by decide)) (fun _ hk => hk.2) (.slice Ao133 t237.length co133)) (fun _ h_ => h_.1)))); (case side2 => exact (Kd.R_reads' HO239.out).2.1); (case side3 => refine (Kd.R_reads' (e := 25) (base := w.heap.size) (ok := fun k_ => (some k_ ≠ (v232 : Value).ownBlock ∧ (some k_ ≠ (.slice Ao133 t237.length co133 : Value).ownBlock ∧ (some k_ ≠ (.slice Ao35 t226.length co35 : Value).ownBlock ∧ some k_ ≠ (.slice Ao46 t215.length co46 : Value).ownBlock)))) (n := t203.length) (c := co29) ?_).2.2; exact (by (with_reducible repeat (first | apply Kd.R_alloc | apply Kd.R_drewN | apply Kd.R_drew)); exact (Kd.R_mono (Kd.R_far (p := ⟨gb241, 0, none⟩) (Kd.R_types HO_208000.out BK241.out (by decide)) (fun _ hk => hk.2) (.slice Ao133 t237.length co133)) (fun _ h_ => h_.1)))); (case side4 => exact (Kd.R_reads' HO_208000.out).2.1); rintro e w148 ⟨rfl, hb⟩; refine ⟨_, rfl, ?_⟩; have n0_ := Aside0.mk (Kd.R_below (by (with_reducible repeat (first | apply Kd.R_alloc | apply Kd.R_drewN | apply Kd.R_drew)); exact (Kd.R_mono (Kd.R_far (p := ⟨gb241, 0, none⟩) (Kd.R_types HO_208000.out BK241.out (by decide)) (fun _ hk => hk.2) (.slice Ao133 t237.length co133)) (fun _ h_ => h_.1))) hb); have n1_ := Aside0.mk (Kd.R_below (by (with_reducible repeat (first | apply Kd.R_alloc | apply Kd.R_drewN | apply Kd.R_drew)); exact (Kd.R_mono (Kd.R_far (p := ⟨gb241, 0, none⟩) (Kd.R_types HO_212000.out BK241.out (by decide)) (fun _ hk => hk.2) (.slice Ao133 t237.length co133)) (fun _ h_ => h_.1))) hb); have n2_ := Aside0.mk (Kd.R_below (by (with_reducible repeat (first | apply Kd.R_alloc | apply Kd.R_drewN | apply Kd.R_drew)); exact (Kd.R_mono (Kd.R_far (p := ⟨gb241, 0, none⟩) (Kd.R_types HO_220000.out BK241.out (by decide)) (fun _ hk => hk.2) (.slice Ao133 t237.length co133)) (fun _ h_ => h_.1))) hb); have n3_ := Aside0.mk (Kd.R_below (by (with_reducible repeat (first | apply Kd.R_alloc | apply Kd.R_drewN | apply Kd.R_drew)); exact (Kd.R_mono (Kd.R_far (p := ⟨gb241, 0, none⟩) (Kd.R_types HO233.out BK241.out (by decide)) (fun _ hk => hk.2) (.slice Ao133 t237.length co133)) (fun _ h_ => h_.1))) hb); have n4_ := Aside0.mk (Kd.R_below (by (with_reducible repeat (first | apply Kd.R_alloc | apply Kd.R_drewN | apply Kd.R_drew)); exact (Kd.R_mono (Kd.R_far (p := ⟨gb241, 0, none⟩) (Kd.R_types HO239.out BK241.out (by decide)) (fun _ hk => hk.2) (.slice Ao133 t237.length co133)) (fun _ h_ => h_.1))) hb); have n5_ := Aside0.mk (blk_below (g := gb194) (o := .cells #[.slice A0_0 l0_0.length c0_0] 40 (0, 0)) (by (with_reducible repeat (first | refine blk_drewN ?_ _ | refine blk_drew ?_ | refine blk_alloc ?_ _)); refine blk_far ?_ NB194_241.out _; (with_reducible repeat (first | refine blk_drewN ?_ _ | refine blk_drew ?_ | refine blk_alloc ?_ _)); exact BK194.out) hb); have n6_ := Aside0.mk (blk_below (g := gb195) (o := .cells #[.int .i64 a1_0, .int .i64 a1_1, .int .i64 a1_2] 23 (0, 0)) (by (with_reducible repeat (first | refine blk_drewN ?_ _ | refine blk_drew ?_ | refine blk_alloc ?_ _)); refine blk_far ?_ NB195_241.out _; (with_reducible repeat (first | refine blk_drewN ?_ _ | refine blk_drew ?_ | refine blk_alloc ?_ _)); exact BK195.out) hb); have n7_ := Aside0.mk (blk_below (g := gb207) (o := .cells #[.slice Ao29 t203.length co29] 45 (0, 0)) (by (with_reducible repeat (first | refine blk_drewN ?_ _ | refine blk_drew ?_ | refine blk_alloc ?_ _)); refine blk_far ?_ NB207_241.out _; (with_reducible repeat (first | refine blk_drewN ?_ _ | refine blk_drew ?_ | refine blk_alloc ?_ _)); exact BK207.out) hb); have n8_ := Aside0.mk (blk_below (g := gb211) (o := .cells #[.slice Ao35 t226.length co35] 45 (0, 0)) (by (with_reducible repeat (first | refine blk_drewN ?_ _ | refine blk_drew ?_ | refine blk_alloc ?_ _)); refine blk_far ?_ NB211_241.out _; (with_reducible repeat (first | refine blk_drewN ?_ _ | refine blk_drew ?_ | refine blk_alloc ?_ _)); exact BK211.out) hb); have n9_ := Aside0.mk (blk_below (g := gb219) (o := .cells #[.slice Ao46 t215.length co46] 45 (0, 0)) (by (with_reducible repeat (first | refine blk_drewN ?_ _ | refine blk_drew ?_ | refine blk_alloc ?_ _)); refine blk_far ?_ NB219_241.out _; (with_reducible repeat (first | refine blk_drewN ?_ _ | refine blk_drew ?_ | refine blk_alloc ?_ _)); exact BK219.out) hb); have n10_ := Aside0.mk (blk_below (g := gb241) (o := .cells #[.slice Ao133 t237.length co133] 45 (0, 0)) (by (with_reducible repeat (first | refine blk_drewN ?_ _ | refine blk_drew ?_ | refine blk_alloc ?_ _)); refine blk_put (cs := #[.slice none 0 0]) ?_ 0 _ rfl; (with_reducible repeat (first | refine blk_drewN ?_ _ | refine blk_drew ?_ | refine blk_alloc ?_ _)); exact BK241.out) hb); have n11_ := Aside0.mk (below_step Xmv.ub hb); clear HO_208000; clear HO_212000; clear HO_220000; clear HO233; clear HO239; clear BK194; clear BK195; clear BK207; clear BK211; clear BK219; clear BK241; clear HB; have HO_208000 := n0_; have HO_212000 := n1_; have HO_220000 := n2_; have HO233 := n3_; have HO239 := n4_; have BK194 := n5_; have BK195 := n6_; have BK207 := n7_; have BK211 := n8_; have BK219 := n9_; have BK241 := n10_; have HB := n11_; clear n0_ n1_ n2_ n3_ n4_ n5_ n6_ n7_ n8_ n9_ n10_ n11_; (try clear hb); (try clear hb2); (try clear hk); (try clear hi)))
                    go_meet
                    case rel => exact ⟨_, ((t240 != t206)), (by first | rfl | (simp; done) | (simp [*]; done)), H', ⟨by have := HJ15.out; have := HJ74.out; first | omega | exact Nat.le_refl _⟩, ⟨by (try simp only [hl212000_74]); (with_reducible repeat (first | apply Kd.R_alloc | apply Kd.R_drewN | apply Kd.R_drew)); exact Kd.R_mono HO_208000.out (fun _ hk => ⟨hk.2.2.1, ⟨hk.2.2.2, hk.2.1⟩⟩)⟩, ⟨by (try simp only [hl212000_74]); (with_reducible repeat (first | apply Kd.R_alloc | apply Kd.R_drewN | apply Kd.R_drew)); exact Kd.R_mono HO_212000.out (fun _ hk => ⟨hk.2.2.1, ⟨hk.2.2.2, hk.2.1⟩⟩)⟩, ⟨by (try simp only [hl212000_74]); (with_reducible repeat (first | apply Kd.R_alloc | apply Kd.R_drewN | apply Kd.R_drew)); exact Kd.R_mono HO_220000.out (fun _ hk => ⟨hk.2.2.1, ⟨hk.2.2.2, hk.2.1⟩⟩)⟩, ⟨by (try simp only [hl212000_74]); (with_reducible repeat (first | apply Kd.R_alloc | apply Kd.R_drewN | apply Kd.R_drew)); exact Kd.R_mono HO239.out (fun _ hk => ⟨hk.2.1, ⟨hk.2.2.1, hk.2.2.2⟩⟩)⟩, ⟨by (try simp only [hl212000_74]); (with_reducible repeat (first | refine blk_drewN ?_ _ | refine blk_drew ?_ | refine blk_alloc ?_ _)); exact BK194.out⟩, ⟨by (try simp only [hl212000_74]); (with_reducible repeat (first | refine blk_drewN ?_ _ | refine blk_drew ?_ | refine blk_alloc ?_ _)); exact BK195.out⟩, ⟨by (try simp only [hl212000_74]); (with_reducible repeat (first | refine blk_drewN ?_ _ | refine blk_drew ?_ | refine blk_alloc ?_ _)); exact BK207.out⟩, ⟨by (try simp only [hl212000_74]); (with_reducible repeat (first | refine blk_drewN ?_ _ | refine blk_drew ?_ | refine blk_alloc ?_ _)); exact BK211.out⟩, ⟨by (try simp only [hl212000_74]); (with_reducible repeat (first | refine blk_drewN ?_ _ | refine blk_drew ?_ | refine blk_alloc ?_ _)); exact BK219.out⟩, ⟨by (try simp only [hl212000_74]); (with_reducible repeat (first | refine blk_drewN ?_ _ | refine blk_drew ?_ | refine blk_alloc ?_ _)); exact BK241.out⟩, ⟨by repeat (first | (with_reducible first | exact HB.out | apply below_alloc | apply pw_below_drewN | apply below_drew1 | refine below_set ?_ GE194.out | refine below_set ?_ GE195.out | refine below_set ?_ GE207.out | refine below_set ?_ GE211.out | refine below_set ?_ GE219.out | refine below_set ?_ GE241.out) | exact HB.out)⟩⟩
                  · replace c136 := Bool.eq_false_iff.mpr c136
                    subst c136
                    have H1 : (laws_FnExactAddClue.j2 kj74 t228 true t229) = some r := by rw [if_neg (show ¬ (false = true) by decide)] at H; exact H
                    clear H
                    have H := H1
                    clear H1
                    have H' := Aside0.mk H
                    clear H
                    have hnb149 := NB241_194.out
                    have hnc149 := NB194_241.out
                    have hnb150 := NB241_195.out
                    have hnc150 := NB195_241.out
                    have hnb151 := NB241_207.out
                    have hnc151 := NB207_241.out
                    have hnb152 := NB241_211.out
                    have hnc152 := NB211_241.out
                    have hnb153 := NB241_219.out
                    have hnc153 := NB219_241.out
                    have hcz154_0 : w132.cell? ⟨gb241, 0, none⟩ = some (.slice none 0 0) := (blk_cell BK241.out 0).trans rfl
                    have hfz154_0 := blk_frozen BK241.out 0
                    have hnb155 := NB207_194.out
                    have hnc155 := NB194_207.out
                    have hnb156 := NB207_195.out
                    have hnc156 := NB195_207.out
                    have hnb157 := NB207_211.out
                    have hnc157 := NB211_207.out
                    have hnb158 := NB207_219.out
                    have hnc158 := NB219_207.out
                    have hcz159_0 : w132.cell? ⟨gb207, 0, none⟩ = some (.slice Ao29 t203.length co29) := (blk_cell BK207.out 0).trans rfl
                    have hfz159_0 := blk_frozen BK207.out 0
                    go_wp2_with (first | ((with_reducible refine gate_callee (f := 31) rfl ?_); refine goesL_ (some 89) rfl rfl Try.func31 (by kernel_rfl) rfl #[.agg #[.slice Ao133 t237.length co133], .agg #[.slice Ao29 t203.length co29]] rfl (by (try simp only [List.map_toArray, List.map_cons, List.map_nil]); first | done | rfl | (simp only [List.length_drop, List.length_take]; rfl)) ?_; (with_reducible refine (laws_eqPuzzle.calls kj74 _ _ t237 _ _ t203 false _ ?side1 ?side2 ?side3 ?side4 A135.out).mono ?_); (case side1 => refine (Kd.R_reads' (e := 25) (base := w.heap.size) (ok := fun k_ => (some k_ ≠ (v232 : Value).ownBlock ∧ (some k_ ≠ (.slice Ao29 t203.length co29 : Value).ownBlock ∧ (some k_ ≠ (.slice Ao35 t226.length co35 : Value).ownBlock ∧ some k_ ≠ (.slice Ao46 t215.length co46 : Value).ownBlock)))) (n := t237.length) (c := co133) ?_).2.2; exact (by (with_reducible repeat (first | apply Kd.R_alloc | apply Kd.R_drewN | apply Kd.R_drew)); exact (Kd.R_mono (Kd.R_far (p := ⟨gb241, 0, none⟩) (Kd.R_types HO239.out BK241.out (by decide)) (fun _ hk => hk.2) (.slice Ao133 t237.length co133)) (fun _ h_ => h_.1)))); (case side2 => exact (Kd.R_reads' HO239.out).2.1); (case side3 => refine (Kd.R_reads' (e := 25) (base := w.heap.size) (ok := fun k_ => (some k_ ≠ (v232 : Value).ownBlock ∧ (some k_ ≠ (.slice Ao133 t237.length co133 : Value).ownBlock ∧ (some k_ ≠ (.slice Ao35 t226.length co35 : Value).ownBlock ∧ some k_ ≠ (.slice Ao46 t215.length co46 : Value).ownBlock)))) (n := t203.length) (c := co29) ?_).2.2; exact (by (with_reducible repeat (first | apply Kd.R_alloc | apply Kd.R_drewN | apply Kd.R_drew)); exact (Kd.R_mono (Kd.R_far (p := ⟨gb241, 0, none⟩) (Kd.R_types HO_208000.out BK241.out (by decide)) (fun _ hk => hk.2) (.slice Ao133 t237.length co133)) (fun _ h_ => h_.1)))); (case side4 => exact (Kd.R_reads' HO_208000.out).2.1); rintro e w160 ⟨rfl, hb⟩; refine ⟨_, rfl, ?_⟩; have n0_ := Aside0.mk (Kd.R_below (by (with_reducible repeat (first | apply Kd.R_alloc | apply Kd.R_drewN | apply Kd.R_drew)); exact (Kd.R_mono (Kd.R_far (p := ⟨gb241, 0, none⟩) (Kd.R_types HO_208000.out BK241.out (by decide)) (fun _ hk => hk.2) (.slice Ao133 t237.length co133)) (fun _ h_ => h_.1))) hb); have n1_ := Aside0.mk (Kd.R_below (by (with_reducible repeat (first | apply Kd.R_alloc | apply Kd.R_drewN | apply Kd.R_drew)); exact (Kd.R_mono (Kd.R_far (p := ⟨gb241, 0, none⟩) (Kd.R_types HO_212000.out BK241.out (by decide)) (fun _ hk => hk.2) (.slice Ao133 t237.length co133)) (fun _ h_ => h_.1))) hb); have n2_ := Aside0.mk (Kd.R_below (by (with_reducible repeat (first | apply Kd.R_alloc | apply Kd.R_drewN | apply Kd.R_drew)); exact (Kd.R_mono (Kd.R_far (p := ⟨gb241, 0, none⟩) (Kd.R_types HO_220000.out BK241.out (by decide)) (fun _ hk => hk.2) (.slice Ao133 t237.length co133)) (fun _ h_ => h_.1))) hb); have n3_ := Aside0.mk (Kd.R_below (by (with_reducible repeat (first | apply Kd.R_alloc | apply Kd.R_drewN | apply Kd.R_drew)); exact (Kd.R_mono (Kd.R_far (p := ⟨gb241, 0, none⟩) (Kd.R_types HO233.out BK241.out (by decide)) (fun _ hk => hk.2) (.slice Ao133 t237.length co133)) (fun _ h_ => h_.1))) hb); have n4_ := Aside0.mk (Kd.R_below (by (with_reducible repeat (first | apply Kd.R_alloc | apply Kd.R_drewN | apply Kd.R_drew)); exact (Kd.R_mono (Kd.R_far (p := ⟨gb241, 0, none⟩) (Kd.R_types HO239.out BK241.out (by decide)) (fun _ hk => hk.2) (.slice Ao133 t237.length co133)) (fun _ h_ => h_.1))) hb); have n5_ := Aside0.mk (blk_below (g := gb194) (o := .cells #[.slice A0_0 l0_0.length c0_0] 40 (0, 0)) (by (with_reducible repeat (first | refine blk_drewN ?_ _ | refine blk_drew ?_ | refine blk_alloc ?_ _)); refine blk_far ?_ NB194_241.out _; (with_reducible repeat (first | refine blk_drewN ?_ _ | refine blk_drew ?_ | refine blk_alloc ?_ _)); exact BK194.out) hb); have n6_ := Aside0.mk (blk_below (g := gb195) (o := .cells #[.int .i64 a1_0, .int .i64 a1_1, .int .i64 a1_2] 23 (0, 0)) (by (with_reducible repeat (first | refine blk_drewN ?_ _ | refine blk_drew ?_ | refine blk_alloc ?_ _)); refine blk_far ?_ NB195_241.out _; (with_reducible repeat (first | refine blk_drewN ?_ _ | refine blk_drew ?_ | refine blk_alloc ?_ _)); exact BK195.out) hb); have n7_ := Aside0.mk (blk_below (g := gb207) (o := .cells #[.slice Ao29 t203.length co29] 45 (0, 0)) (by (with_reducible repeat (first | refine blk_drewN ?_ _ | refine blk_drew ?_ | refine blk_alloc ?_ _)); refine blk_far ?_ NB207_241.out _; (with_reducible repeat (first | refine blk_drewN ?_ _ | refine blk_drew ?_ | refine blk_alloc ?_ _)); exact BK207.out) hb); have n8_ := Aside0.mk (blk_below (g := gb211) (o := .cells #[.slice Ao35 t226.length co35] 45 (0, 0)) (by (with_reducible repeat (first | refine blk_drewN ?_ _ | refine blk_drew ?_ | refine blk_alloc ?_ _)); refine blk_far ?_ NB211_241.out _; (with_reducible repeat (first | refine blk_drewN ?_ _ | refine blk_drew ?_ | refine blk_alloc ?_ _)); exact BK211.out) hb); have n9_ := Aside0.mk (blk_below (g := gb219) (o := .cells #[.slice Ao46 t215.length co46] 45 (0, 0)) (by (with_reducible repeat (first | refine blk_drewN ?_ _ | refine blk_drew ?_ | refine blk_alloc ?_ _)); refine blk_far ?_ NB219_241.out _; (with_reducible repeat (first | refine blk_drewN ?_ _ | refine blk_drew ?_ | refine blk_alloc ?_ _)); exact BK219.out) hb); have n10_ := Aside0.mk (blk_below (g := gb241) (o := .cells #[.slice Ao133 t237.length co133] 45 (0, 0)) (by (with_reducible repeat (first | refine blk_drewN ?_ _ | refine blk_drew ?_ | refine blk_alloc ?_ _)); refine blk_put (cs := #[.slice none 0 0]) ?_ 0 _ rfl; (with_reducible repeat (first | refine blk_drewN ?_ _ | refine blk_drew ?_ | refine blk_alloc ?_ _)); exact BK241.out) hb); have n11_ := Aside0.mk (below_step Xmv.ub hb); clear HO_208000; clear HO_212000; clear HO_220000; clear HO233; clear HO239; clear BK194; clear BK195; clear BK207; clear BK211; clear BK219; clear BK241; clear HB; have HO_208000 := n0_; have HO_212000 := n1_; have HO_220000 := n2_; have HO233 := n3_; have HO239 := n4_; have BK194 := n5_; have BK195 := n6_; have BK207 := n7_; have BK211 := n8_; have BK219 := n9_; have BK241 := n10_; have HB := n11_; clear n0_ n1_ n2_ n3_ n4_ n5_ n6_ n7_ n8_ n9_ n10_ n11_; (try clear hb); (try clear hb2); (try clear hk); (try clear hi)))
                    go_meet
                    case rel => exact ⟨_, (true), (by first | rfl | (simp; done) | (simp [*]; done)), H', ⟨by have := HJ15.out; have := HJ74.out; first | omega | exact Nat.le_refl _⟩, ⟨by (try simp only [hl212000_74]); (with_reducible repeat (first | apply Kd.R_alloc | apply Kd.R_drewN | apply Kd.R_drew)); exact Kd.R_mono HO_208000.out (fun _ hk => ⟨hk.2.2.1, ⟨hk.2.2.2, hk.2.1⟩⟩)⟩, ⟨by (try simp only [hl212000_74]); (with_reducible repeat (first | apply Kd.R_alloc | apply Kd.R_drewN | apply Kd.R_drew)); exact Kd.R_mono HO_212000.out (fun _ hk => ⟨hk.2.2.1, ⟨hk.2.2.2, hk.2.1⟩⟩)⟩, ⟨by (try simp only [hl212000_74]); (with_reducible repeat (first | apply Kd.R_alloc | apply Kd.R_drewN | apply Kd.R_drew)); exact Kd.R_mono HO_220000.out (fun _ hk => ⟨hk.2.2.1, ⟨hk.2.2.2, hk.2.1⟩⟩)⟩, ⟨by (try simp only [hl212000_74]); (with_reducible repeat (first | apply Kd.R_alloc | apply Kd.R_drewN | apply Kd.R_drew)); exact Kd.R_mono HO239.out (fun _ hk => ⟨hk.2.1, ⟨hk.2.2.1, hk.2.2.2⟩⟩)⟩, ⟨by (try simp only [hl212000_74]); (with_reducible repeat (first | refine blk_drewN ?_ _ | refine blk_drew ?_ | refine blk_alloc ?_ _)); exact BK194.out⟩, ⟨by (try simp only [hl212000_74]); (with_reducible repeat (first | refine blk_drewN ?_ _ | refine blk_drew ?_ | refine blk_alloc ?_ _)); exact BK195.out⟩, ⟨by (try simp only [hl212000_74]); (with_reducible repeat (first | refine blk_drewN ?_ _ | refine blk_drew ?_ | refine blk_alloc ?_ _)); exact BK207.out⟩, ⟨by (try simp only [hl212000_74]); (with_reducible repeat (first | refine blk_drewN ?_ _ | refine blk_drew ?_ | refine blk_alloc ?_ _)); exact BK211.out⟩, ⟨by (try simp only [hl212000_74]); (with_reducible repeat (first | refine blk_drewN ?_ _ | refine blk_drew ?_ | refine blk_alloc ?_ _)); exact BK219.out⟩, ⟨by (try simp only [hl212000_74]); (with_reducible repeat (first | refine blk_drewN ?_ _ | refine blk_drew ?_ | refine blk_alloc ?_ _)); exact BK241.out⟩, ⟨by repeat (first | (with_reducible first | exact HB.out | apply below_alloc | apply pw_below_drewN | apply below_drew1 | refine below_set ?_ GE194.out | refine below_set ?_ GE195.out | refine below_set ?_ GE207.out | refine below_set ?_ GE211.out | refine below_set ?_ GE219.out | refine below_set ?_ GE241.out) | exact HB.out)⟩⟩
                 case rest =>
                  clear HC117
                  try clear c1
                  try clear c2
                  try clear p2
                  try clear c3
                  try clear c13
                  try clear c14
                  try clear c15
                  try clear c16
                  try clear c29
                  try clear c31
                  try clear c37
                  try clear c136
                  try clear c137
                  try clear c138
                  try clear c139
                  try clear c140
                  try clear c141
                  try clear c143
                  try clear c144
                  try clear c145
                  try clear c146
                  try clear c149
                  try clear c150
                  try clear c151
                  try clear c152
                  try clear c153
                  try clear c155
                  try clear c156
                  try clear c157
                  try clear c158
                  try clear hcz142_0
                  try clear hcz147_0
                  try clear hcz154_0
                  try clear hcz159_0
                  try clear hfz142_0
                  try clear hfz147_0
                  try clear hfz154_0
                  try clear hfz159_0
                  obtain ⟨kq, x95_116, rfl, HA, HJ116, HO_208000, HO_212000, HO_220000, HO_242000, BK194, BK195, BK207, BK211, BK219, BK241, HB⟩ := hcut
                  have hl220000_116 := (Kd.R_reads' HO_220000.out).1
                  rw [hl220000_116] at HO_220000
                  (try simp only [hl220000_116])
                  (try simp only [hl220000_116] at BK194)
                  (try simp only [hl220000_116] at BK195)
                  (try simp only [hl220000_116] at BK207)
                  (try simp only [hl220000_116] at BK211)
                  (try simp only [hl220000_116] at BK219)
                  (try simp only [hl220000_116] at BK241)
                  (try simp only [hl220000_116] at HO_208000)
                  (try simp only [hl220000_116] at HO_212000)
                  (try simp only [hl220000_116] at HO_242000)
                  cases kq with
                  | zero => exact absurd HA.out (by simp [laws_FnExactAddClue.j2])
                  | succ kj116 =>
                   have H := HA.out
                   clear HA
                   simp only [laws_FnExactAddClue.j2] at H
                   by_cases c161 : x95_116 = true
                   · subst c161
                     have H1 : (none) = some r := by rw [if_pos rfl] at H; exact H
                     clear H
                     have H := H1
                     clear H1
                     exact absurd H (by simp)
                   · replace c161 := Bool.eq_false_iff.mpr c161
                     subst c161
                     have H1 : ((laws_heldPuzzle.f kj116 t229 1).bind fun t243 => (if t243 < 0 then (none) else (if t243 = t228 then (some true) else (none)))) = some r := by rw [if_neg (show ¬ (false = true) by decide)] at H; exact H
                     clear H
                     have H := H1
                     clear H1
                     replace H := Option.bind_eq_some_iff.mp H
                     obtain ⟨t243, A1620, H⟩ := H
                     replace H : (if t243 < 0 then (none) else (if t243 = t228 then (some true) else (none))) = some r := H
                     have A162 := Aside0.mk A1620
                     clear A1620
                     by_cases c163 : t243 < 0
                     · rw [if_pos c163] at H
                       exact absurd H (by simp)
                     · rw [if_neg c163] at H
                       have c163b0 : decide (t243 < 0) = false := decide_eq_false c163
                       clear c163
                       by_cases c164 : t243 = t228
                       · rw [if_pos c164] at H
                         have c164b0 : (t243 == t228) = true := beq_iff_eq.mpr c164
                         have c164b1 : (t243 != t228) = false := bne_eq_false_iff_eq.mpr c164
                         clear c164
                         obtain rfl := Option.some.inj H
                         have hnb165 := NB219_194.out
                         have hnc165 := NB194_219.out
                         have hnb166 := NB219_195.out
                         have hnc166 := NB195_219.out
                         have hnb167 := NB219_207.out
                         have hnc167 := NB207_219.out
                         have hnb168 := NB219_211.out
                         have hnc168 := NB211_219.out
                         have hnb169 := NB219_241.out
                         have hnc169 := NB241_219.out
                         have hcz170_0 : wc.cell? ⟨gb219, 0, none⟩ = some (.slice Ao46 t229.length co46) := (blk_cell BK219.out 0).trans rfl
                         have hfz170_0 := blk_frozen BK219.out 0
                         go_wp2_with (first | ((with_reducible refine gate_callee (f := 39) rfl ?_); refine goesL_ (some 98) rfl rfl Try.func39 (by kernel_rfl) rfl #[.agg #[.slice Ao46 t229.length co46], .int .i64 1] rfl (by (try simp only [List.map_toArray, List.map_cons, List.map_nil]); first | done | rfl | (simp only [List.length_drop, List.length_take]; rfl)) ?_; (with_reducible refine (laws_heldPuzzle.calls kj116 _ _ t229 1 t243 _ ?side1 ?side2 A162.out).mono ?_); (case side1 => repeat (first | exact (Kd.R_reads' HO_220000.out).2.2 | (with_reducible refine Kd.C_alloc ?_ _) | (with_reducible refine Kd.C_drewN ?_ _) | (with_reducible refine Kd.C_drew ?_))); (case side2 => exact (Kd.R_reads' HO_220000.out).2.1); rintro e w171 ⟨rfl, hb⟩; refine ⟨_, rfl, ?_⟩; have n0_ := Aside0.mk (Kd.R_below (Xmv.rm HO_208000.out) hb); have n1_ := Aside0.mk (Kd.R_below (Xmv.rm HO_212000.out) hb); have n2_ := Aside0.mk (Kd.R_below (Xmv.rm HO_220000.out) hb); have n3_ := Aside0.mk (Kd.R_below (Xmv.rm HO_242000.out) hb); have n4_ := Aside0.mk (blk_below (g := gb194) (o := .cells #[.slice A0_0 l0_0.length c0_0] 40 (0, 0)) (Xmv.bm BK194.out) hb); have n5_ := Aside0.mk (blk_below (g := gb195) (o := .cells #[.int .i64 a1_0, .int .i64 a1_1, .int .i64 a1_2] 23 (0, 0)) (Xmv.bm BK195.out) hb); have n6_ := Aside0.mk (blk_below (g := gb207) (o := .cells #[.slice Ao29 t203.length co29] 45 (0, 0)) (Xmv.bm BK207.out) hb); have n7_ := Aside0.mk (blk_below (g := gb211) (o := .cells #[.slice Ao35 t226.length co35] 45 (0, 0)) (Xmv.bm BK211.out) hb); have n8_ := Aside0.mk (blk_below (g := gb219) (o := .cells #[.slice Ao46 t229.length co46] 45 (0, 0)) (Xmv.bm BK219.out) hb); have n9_ := Aside0.mk (blk_below (g := gb241) (o := .cells #[.slice Ao133 t237.length co133] 45 (0, 0)) (Xmv.bm BK241.out) hb); have n10_ := Aside0.mk (below_step Xmv.ub hb); clear HO_208000; clear HO_212000; clear HO_220000; clear HO_242000; clear BK194; clear BK195; clear BK207; clear BK211; clear BK219; clear BK241; clear HB; have HO_208000 := n0_; have HO_212000 := n1_; have HO_220000 := n2_; have HO_242000 := n3_; have BK194 := n4_; have BK195 := n5_; have BK207 := n6_; have BK211 := n7_; have BK219 := n8_; have BK241 := n9_; have HB := n10_; clear n0_ n1_ n2_ n3_ n4_ n5_ n6_ n7_ n8_ n9_ n10_; (try clear hb); (try clear hb2); (try clear hk); (try clear hi)))
                         go_ret
                         exact ⟨by first | rfl | (simp [errW_none, errW_some] <;> rfl) | (simp [*, errW_none, errW_some] <;> rfl), by repeat (first | (with_reducible first | exact HB.out | apply below_alloc | apply pw_below_drewN | apply below_drew1 | refine below_set ?_ GE194.out | refine below_set ?_ GE195.out | refine below_set ?_ GE207.out | refine below_set ?_ GE211.out | refine below_set ?_ GE219.out | refine below_set ?_ GE241.out) | exact HB.out)⟩
                       · rw [if_neg c164] at H
                         exact absurd H (by simp)
               · rw [if_neg c113] at H
                 exact absurd H (by simp)
       · replace c73 := Bool.eq_false_iff.mpr c73
         subst c73
         have H1 : (none) = some r := by rw [if_neg (show ¬ (false = true) by decide)] at H; exact H
         clear H
         have H := H1
         clear H1
         exact absurd H (by simp)

end Go.Proofs.Ytgjbclaodlhajaa.PFnExactAddClue
