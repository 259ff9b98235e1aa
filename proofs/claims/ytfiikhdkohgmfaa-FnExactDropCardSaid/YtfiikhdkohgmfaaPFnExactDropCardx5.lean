-- MADE FOR THIS CLAIM by wip/xp/xprint.py (with the kit's print; some functions' contracts proved by hand)
import Derived.Test.YtfiikhdkohgmfaaPFnExactDropCardx0
import Derived.Test.YtfiikhdkohgmfaaPFnExactDropCardx1
import Derived.Test.YtfiikhdkohgmfaaPFnExactDropCardx2
import Derived.Test.YtfiikhdkohgmfaaPFnExactDropCardx4
namespace Go.Proofs.Ytfiikhdkohgmfaa.PFnExactDropCard
open Go.RowKit Go.Proofs.YtfiikhdkohgmfaaW.PrintWords Go.Proofs.YtfiikhdkohgmfaaW.PrintLast Go.Proofs.YtfiikhdkohgmfaaW.PrintMore
attribute [local go_sem] max2_int min2_int max_two min_two max_three min_three max_four min_four   -- for this text's walks alone
set_option linter.unusedVariables false
set_option linter.unusedSimpArgs false

/-! ### impl_Cards_own: function 76 -/
def impl_Cards_own.l0 : Nat → List (List Int) → Int → Int → Int → List (List Int) → Option (Int × (List (List Int)))
  | 0, _, _, _, _, _ => none
  | k + 1, x11, x12, x13, x184000, x184001 => if x13 < x12 then (if 0 ≤ x13 then (if x13 < (x11.length : Int) then ((slices_Clone_int_int.f (rd_L1 x11 x13)).bind fun t185 => (if x184001.length < 5864062014805 then (impl_Cards_own.l0 k x11 x12 (wrap64 (x13 + 1)) x184000 (x184001 ++ [t185])) else (none))) else (none)) else (none)) else (some (x184000, x184001))
def impl_Cards_own.f (k : Nat) (a0_0 : Int) (l0_1 : List (List Int)) : Option (Int × (List (List Int))) := impl_Cards_own.l0 k l0_1 (l0_1.length : Int) 0 a0_0 (([] : List (List Int)))
theorem impl_Cards_own.mono_l : ∀ k, (∀ y0 y1 y2 y3 y4, LeO (impl_Cards_own.l0 k y0 y1 y2 y3 y4) (impl_Cards_own.l0 (k + 1) y0 y1 y2 y3 y4))
  | 0 => fun _ _ _ _ _ r h => by simp [impl_Cards_own.l0] at h
  | k + 1 => by
    have ih0 := impl_Cards_own.mono_l k
    · intro y0 y1 y2 y3 y4
      unfold impl_Cards_own.l0
      repeat' first
      | (with_reducible exact ih0 _ _ _ _ _)
      | (with_reducible exact LeO.refl _)
      | (with_reducible exact LeO.none _)
      | (with_reducible refine LeO.ite ?_ ?_)
      | (with_reducible refine LeO.bind ?_ (fun _ => ?_))
      | exact ih0 _ _ _ _ _
      | exact LeO.none _
      | refine LeO.ite ?_ ?_
      | refine LeO.bind ?_ (fun _ => ?_)
theorem impl_Cards_own.mono : ∀ a0 a1 k, LeO (impl_Cards_own.f k a0 a1) (impl_Cards_own.f (k + 1) a0 a1) := by
  intro a0 a1 k
  have ih0 := impl_Cards_own.mono_l k
  unfold impl_Cards_own.f
  repeat' first
      | (with_reducible exact ih0 _ _ _ _ _)
      | (with_reducible exact LeO.refl _)
      | (with_reducible exact LeO.none _)
      | (with_reducible refine LeO.ite ?_ ?_)
      | (with_reducible refine LeO.bind ?_ (fun _ => ?_))
      | exact ih0 _ _ _ _ _
      | exact LeO.none _
      | refine LeO.ite ?_ ?_
      | refine LeO.bind ?_ (fun _ => ?_)
def impl_Cards_own.T5 : Bool × List (List Nat × List Nat) := (true, [([], []), ([0], [0]), ([], []), ([2], [2]), ([3], [3]), ([1, 4, 3], [1, 4]), ([0, 1, 2, 3, 4, 5], []), ([6, 5, 5, 0, 1, 2, 3, 4, 5], [5, 6])])
def impl_Cards_own.B5 : List Nat := [0, 1, 0, 4, 12, 31, 63, 127]
theorem impl_Cards_own.tab5 : rtab .any (opsOf Try.f76 5) = impl_Cards_own.T5 := by kernel_rfl
theorem impl_Cards_own.bits5 : waitsOk impl_Cards_own.T5.2 impl_Cards_own.B5 = true := by kernel_rfl
set_option maxHeartbeats 8000000 in
set_option maxRecDepth 100000 in
theorem impl_Cards_own.calls (k : Nat) (a0_0 : Int) (A0_1 : Option Addr) (c0_1 : Nat) (l0_1 : List (List Int)) (r1 : Int) (r2 : List (List Int)) (w : World) (hr0_1 : Kd.C (Kd.slice 3 (Kd.int .i64)) w A0_1 l0_1.length l0_1) (hc0_1 : l0_1.length ≤ c0_1) (h : impl_Cards_own.f k a0_0 l0_1 = some (r1, r2)) :
    Calls Try.prog 76 #[.agg #[.int .i64 a0_0, .slice A0_1 l0_1.length c0_1]] w fun e w' => ∃ v1_ : Value, e = .returned (.agg #[.int .i64 r1, v1_]) ∧ Kd.S (Kd.slice 3 (Kd.int .i64)) 26 w' w.heap.size (fun _ => True) v1_ r2 ∧ Below w.heap.size w w' := by
  have hu46 := Try.underlying46
  have HR0_1 := Aside0.mk hr0_1
  have HC0_1 := Aside0.mk hc0_1
  clear hr0_1 hc0_1
  have HB := Aside0.mk (Below.refl w.heap.size w)
  have H : (impl_Cards_own.l0 k l0_1 (l0_1.length : Int) 0 a0_0 (([] : List (List Int)))) = some (r1, r2) := h
  clear h
  obtain ⟨y180, hy180⟩ : ∃ y_ : List (List Int), y_ = (([] : List (List Int))) := ⟨_, rfl⟩
  replace H : (impl_Cards_own.l0 k l0_1 (l0_1.length : Int) 0 a0_0 y180) = some (r1, r2) := by first | (rw [hy180]; with_reducible exact H) | (have H2_ := (Option.bind_some _ _).symm.trans H; rw [hy180]; with_reducible exact H2_) | (have H2_ := (Option.bind_some _ _).symm.trans H; with_reducible exact H2_) | with_reducible exact H | (rw [hy180]; exact H) | exact H
  have Ny180 := Aside0.mk hy180
  clear hy180
  have H' := Aside0.mk H
  clear H
  go_enter Try.func76, Try.ntmps76
  go_wp2_with (first | ((with_reducible refine gate_dst (N := 1) rfl ?_); refine box_event ?hg (N := 1) ?hd (cs := #[.int .i64 a0_0, .slice A0_1 l0_1.length c0_1]) (t := 46) ?hr ?_; (case hd => rfl); (case hg => rfl); (case hr => first | (go_simp; done) | (go_simp; rfl)); intro gb178 hg w2 hbox hb; have n0_ := Aside0.mk (below_step (by repeat (first | (with_reducible first | exact HB.out | apply below_alloc | apply pw_below_drewN | apply below_drew1) | exact HB.out)) hb); have n1_ := Aside0.mk (hbox); have n2_ := Aside0.mk ((by rw [hg]; exact (below_size (by repeat (first | (with_reducible first | exact HB.out | apply below_alloc | apply pw_below_drewN | apply below_drew1) | exact HB.out))) : w.heap.size ≤ gb178)); have n3_ := Aside0.mk ((by rw [hg]; exact (below_size (by repeat (first | (with_reducible first | exact HB.out | apply below_alloc | apply pw_below_drewN | apply below_drew1) | exact HB.out))) : w.heap.size ≤ gb178)); clear HB; have HB := n0_; have BK178 := n1_; have GW178 := n2_; have GE178 := n3_; clear n0_ n1_ n2_ n3_; clear hb hbox hg) | ((with_reducible refine gate_dst (N := 2) rfl ?_); refine box_event ?hg (N := 2) ?hd (cs := #[.int .i64 0, .slice none 0 0]) (t := 46) ?hr ?_; (case hd => rfl); (case hg => rfl); (case hr => first | (go_simp; done) | (go_simp; rfl)); intro gb179 hg w3 hbox hb; have n0_ := Aside0.mk (blk_below (g := gb178) (o := .cells #[.int .i64 a0_0, .slice A0_1 l0_1.length c0_1] 46 (0, 0)) (by (with_reducible repeat (first | refine blk_drewN ?_ _ | refine blk_drew ?_ | refine blk_alloc ?_ _)); exact BK178.out) hb); have n1_ := Aside0.mk (below_step (by repeat (first | (with_reducible first | exact HB.out | apply below_alloc | apply pw_below_drewN | apply below_drew1 | refine below_set ?_ GE178.out) | exact HB.out)) hb); have n2_ := Aside0.mk (hbox); have n3_ := Aside0.mk ((by rw [hg]; exact (below_size (by repeat (first | (with_reducible first | exact HB.out | apply below_alloc | apply pw_below_drewN | apply below_drew1 | refine below_set ?_ GE178.out) | exact HB.out))) : w.heap.size ≤ gb179)); have n4_ := Aside0.mk ((by rw [hg]; exact (below_size (by repeat (first | (with_reducible first | exact HB.out | apply below_alloc | apply pw_below_drewN | apply below_drew1 | refine below_set ?_ GE178.out) | exact HB.out))) : w.heap.size ≤ gb179)); have n5_ := Aside0.mk ((by rw [hg]; exact Nat.ne_of_lt (blk_lt (g := gb178) (o := .cells #[.int .i64 a0_0, .slice A0_1 l0_1.length c0_1] 46 (0, 0)) (by (with_reducible repeat (first | refine blk_drewN ?_ _ | refine blk_drew ?_ | refine blk_alloc ?_ _)); exact BK178.out)) : gb178 ≠ gb179)); have n6_ := Aside0.mk ((by rw [hg]; exact Nat.ne_of_gt (blk_lt (g := gb178) (o := .cells #[.int .i64 a0_0, .slice A0_1 l0_1.length c0_1] 46 (0, 0)) (by (with_reducible repeat (first | refine blk_drewN ?_ _ | refine blk_drew ?_ | refine blk_alloc ?_ _)); exact BK178.out)) : gb179 ≠ gb178)); clear BK178; clear HB; have BK178 := n0_; have HB := n1_; have BK179 := n2_; have GW179 := n3_; have GE179 := n4_; have NB178_179 := n5_; have NB179_178 := n6_; clear n0_ n1_ n2_ n3_ n4_ n5_ n6_; clear hb hbox hg; have hnb4 := NB178_179.out; have hnc4 := NB179_178.out; have hcz5_0 : w3.cell? ⟨gb178, 0, none⟩ = some (.int .i64 a0_0) := (blk_cell BK178.out 0).trans rfl; have hcz5_1 : w3.cell? ⟨gb178, 1, none⟩ = some (.slice A0_1 l0_1.length c0_1) := (blk_cell BK178.out 1).trans rfl; have hfz5_0 := blk_frozen BK178.out 0; have hfz5_1 := blk_frozen BK178.out 1) | ((with_reducible refine gate_dst (N := 8) rfl ?_); refine Kd.S_lit (Kd.slice 3 (Kd.int .i64)) _ 26 ?hg (N := 8) ?hd (xs := ([] : List (List Int))) (inner := []) (ok := fun _ => True) (okp := fun _ => True) ?hr ?hp (fun _ hk => hk) trivial (Below.refl _ _) (Nat.le_refl _) (by simp) ?_; (case hd => rfl); (case hg => rfl); (case hr => first | (go_simp; done) | (go_simp; rfl)); (case hp => exact (Reps.none _ _)); intro v181 w6 ho7 hb hg_ hnew_; clear hg_ hnew_; (first | rw [← Ny180.out] at ho7 | (simp only [Int.reduceToNat] at ho7; rw [← Ny180.out] at ho7)); have n0_ := Aside0.mk (Kd.S_lower ho7 (below_size (by repeat (first | (with_reducible first | exact HB.out | apply below_alloc | apply pw_below_drewN | apply below_drew1 | refine below_set ?_ GE178.out | refine below_set ?_ GE179.out) | exact HB.out)))); have n1_ := Aside0.mk (blk_below (g := gb178) (o := .cells #[.int .i64 a0_0, .slice A0_1 l0_1.length c0_1] 46 (0, 0)) (by (with_reducible repeat (first | refine blk_drewN ?_ _ | refine blk_drew ?_ | refine blk_alloc ?_ _)); exact BK178.out) hb); have n2_ := Aside0.mk (blk_below (g := gb179) (o := .cells #[.int .i64 0, .slice none 0 0] 46 (0, 0)) (by (with_reducible repeat (first | refine blk_drewN ?_ _ | refine blk_drew ?_ | refine blk_alloc ?_ _)); exact BK179.out) hb); have n3_ := Aside0.mk (below_step (by repeat (first | (with_reducible first | exact HB.out | apply below_alloc | apply pw_below_drewN | apply below_drew1 | refine below_set ?_ GE178.out | refine below_set ?_ GE179.out) | exact HB.out)) hb); clear BK178; clear BK179; clear HB; have HO182 := n0_; have BK178 := n1_; have BK179 := n2_; have HB := n3_; clear n0_ n1_ n2_ n3_; clear hb ho7; obtain ⟨Ao8, co8, eo8⟩ := Kd.S_slice HO182.out; subst eo8) | ((with_reducible refine gate_dst (N := 3) rfl ?_); refine box_event ?hg (N := 3) ?hd (cs := #[.int .i64 0, .slice none 0 0]) (t := 46) ?hr ?_; (case hd => rfl); (case hg => rfl); (case hr => first | (go_simp; done) | (go_simp; rfl)); intro gb183 hg w9 hbox hb; have n0_ := Aside0.mk (Kd.S_below (by (with_reducible repeat (first | apply Kd.S_alloc | apply Kd.S_drewN | apply Kd.S_drew)); exact HO182.out) hb); have n1_ := Aside0.mk (blk_below (g := gb178) (o := .cells #[.int .i64 a0_0, .slice A0_1 l0_1.length c0_1] 46 (0, 0)) (by (with_reducible repeat (first | refine blk_drewN ?_ _ | refine blk_drew ?_ | refine blk_alloc ?_ _)); exact BK178.out) hb); have n2_ := Aside0.mk (blk_below (g := gb179) (o := .cells #[.int .i64 0, .slice none 0 0] 46 (0, 0)) (by (with_reducible repeat (first | refine blk_drewN ?_ _ | refine blk_drew ?_ | refine blk_alloc ?_ _)); exact BK179.out) hb); have n3_ := Aside0.mk (below_step (by repeat (first | (with_reducible first | exact HB.out | apply below_alloc | apply pw_below_drewN | apply below_drew1 | refine below_set ?_ GE178.out | refine below_set ?_ GE179.out) | exact HB.out)) hb); have n4_ := Aside0.mk (hbox); have n5_ := Aside0.mk ((by rw [hg]; exact (below_size (by repeat (first | (with_reducible first | exact HB.out | apply below_alloc | apply pw_below_drewN | apply below_drew1 | refine below_set ?_ GE178.out | refine below_set ?_ GE179.out) | exact HB.out))) : w.heap.size ≤ gb183)); have n6_ := Aside0.mk ((by rw [hg]; exact (below_size (by repeat (first | (with_reducible first | exact HB.out | apply below_alloc | apply pw_below_drewN | apply below_drew1 | refine below_set ?_ GE178.out | refine below_set ?_ GE179.out) | exact HB.out))) : w.heap.size ≤ gb183)); have n7_ := Aside0.mk ((by rw [hg]; exact Nat.ne_of_lt (blk_lt (g := gb178) (o := .cells #[.int .i64 a0_0, .slice A0_1 l0_1.length c0_1] 46 (0, 0)) (by (with_reducible repeat (first | refine blk_drewN ?_ _ | refine blk_drew ?_ | refine blk_alloc ?_ _)); exact BK178.out)) : gb178 ≠ gb183)); have n8_ := Aside0.mk ((by rw [hg]; exact Nat.ne_of_gt (blk_lt (g := gb178) (o := .cells #[.int .i64 a0_0, .slice A0_1 l0_1.length c0_1] 46 (0, 0)) (by (with_reducible repeat (first | refine blk_drewN ?_ _ | refine blk_drew ?_ | refine blk_alloc ?_ _)); exact BK178.out)) : gb183 ≠ gb178)); have n9_ := Aside0.mk ((by rw [hg]; exact Nat.ne_of_lt (blk_lt (g := gb179) (o := .cells #[.int .i64 0, .slice none 0 0] 46 (0, 0)) (by (with_reducible repeat (first | refine blk_drewN ?_ _ | refine blk_drew ?_ | refine blk_alloc ?_ _)); exact BK179.out)) : gb179 ≠ gb183)); have n10_ := Aside0.mk ((by rw [hg]; exact Nat.ne_of_gt (blk_lt (g := gb179) (o := .cells #[.int .i64 0, .slice none 0 0] 46 (0, 0)) (by (with_reducible repeat (first | refine blk_drewN ?_ _ | refine blk_drew ?_ | refine blk_alloc ?_ _)); exact BK179.out)) : gb183 ≠ gb179)); clear HO182; clear BK178; clear BK179; clear HB; have HO182 := n0_; have BK178 := n1_; have BK179 := n2_; have HB := n3_; have BK183 := n4_; have GW183 := n5_; have GE183 := n6_; have NB178_183 := n7_; have NB183_178 := n8_; have NB179_183 := n9_; have NB183_179 := n10_; clear n0_ n1_ n2_ n3_ n4_ n5_ n6_ n7_ n8_ n9_ n10_; clear hb hbox hg; have hnb10 := NB183_178.out; have hnc10 := NB178_183.out; have hnb11 := NB183_179.out; have hnc11 := NB179_183.out; have hcz12_0 : w9.cell? ⟨gb183, 0, none⟩ = some (.int .i64 0) := (blk_cell BK183.out 0).trans rfl; have hcz12_1 : w9.cell? ⟨gb183, 1, none⟩ = some (.slice none 0 0) := (blk_cell BK183.out 1).trans rfl; have hfz12_0 := blk_frozen BK183.out 0; have hfz12_1 := blk_frozen BK183.out 1; have hcz13_0 : w9.cell? ⟨gb178, 0, none⟩ = some (.int .i64 a0_0) := (blk_cell BK178.out 0).trans rfl; have hcz13_1 : w9.cell? ⟨gb178, 1, none⟩ = some (.slice A0_1 l0_1.length c0_1) := (blk_cell BK178.out 1).trans rfl; have hfz13_0 := blk_frozen BK178.out 0; have hfz13_1 := blk_frozen BK178.out 1))
  go_loopg [13] k (fun kq v13 w' => ∃ (x13_1 : Int) (x184001_1 : List (List Int)) (u184001 : Value), v13 = .int .i64 x13_1 ∧ Aside0 (impl_Cards_own.l0 kq l0_1 (l0_1.length : Int) x13_1 a0_0 x184001_1 = some (r1, r2)) ∧ Aside0 (kq ≤ k) ∧ Aside0 (Kd.S (Kd.slice 3 (Kd.int .i64)) 26 w' w.heap.size (fun _ => True) u184001 x184001_1) ∧ Aside0 (w'.heap[gb178]? = some (.cells #[.int .i64 a0_0, (.slice A0_1 l0_1.length c0_1)] 46 (0, 0))) ∧ Aside0 (w'.heap[gb179]? = some (.cells #[.int .i64 0, (.slice none 0 0)] 46 (0, 0))) ∧ Aside0 (w'.heap[gb183]? = some (.cells #[.int .i64 a0_0, u184001] 46 (0, 0))) ∧ Aside0 (Below w.heap.size w w'))
  case atStart => exact ⟨(0), (y180), (.slice Ao8 y180.length co8), (by first | rfl | (simp; done) | (simp [*]; done)), H', ⟨Nat.le_refl _⟩, ⟨by (with_reducible repeat (first | apply Kd.S_alloc | apply Kd.S_drewN | apply Kd.S_drew)); exact Kd.S_mono (Kd.S_far (p := ⟨gb183, 1, none⟩) (Kd.S_far (p := ⟨gb183, 0, none⟩) (Kd.S_types HO182.out BK183.out (by decide)) (fun _ hk => hk.2) (.int .i64 a0_0)) (fun _ hk => hk.2) (.slice Ao8 y180.length co8)) (fun _ hk => trivial)⟩, ⟨by (with_reducible repeat (first | refine blk_drewN ?_ _ | refine blk_drew ?_ | refine blk_alloc ?_ _)); refine blk_far ?_ NB178_183.out _; (with_reducible repeat (first | refine blk_drewN ?_ _ | refine blk_drew ?_ | refine blk_alloc ?_ _)); refine blk_far ?_ NB178_183.out _; (with_reducible repeat (first | refine blk_drewN ?_ _ | refine blk_drew ?_ | refine blk_alloc ?_ _)); exact BK178.out⟩, ⟨by (with_reducible repeat (first | refine blk_drewN ?_ _ | refine blk_drew ?_ | refine blk_alloc ?_ _)); refine blk_far ?_ NB179_183.out _; (with_reducible repeat (first | refine blk_drewN ?_ _ | refine blk_drew ?_ | refine blk_alloc ?_ _)); refine blk_far ?_ NB179_183.out _; (with_reducible repeat (first | refine blk_drewN ?_ _ | refine blk_drew ?_ | refine blk_alloc ?_ _)); exact BK179.out⟩, ⟨by (with_reducible repeat (first | refine blk_drewN ?_ _ | refine blk_drew ?_ | refine blk_alloc ?_ _)); refine blk_put (cs := #[.int .i64 a0_0, .slice none 0 0]) ?_ 1 _ rfl; (with_reducible repeat (first | refine blk_drewN ?_ _ | refine blk_drew ?_ | refine blk_alloc ?_ _)); refine blk_put (cs := #[.int .i64 0, .slice none 0 0]) ?_ 0 _ rfl; (with_reducible repeat (first | refine blk_drewN ?_ _ | refine blk_drew ?_ | refine blk_alloc ?_ _)); exact BK183.out⟩, ⟨by repeat (first | (with_reducible first | exact HB.out | apply below_alloc | apply pw_below_drewN | apply below_drew1 | refine below_set ?_ GE178.out | refine below_set ?_ GE179.out | refine below_set ?_ GE183.out) | exact HB.out)⟩⟩
  case round =>
    clear H'
    try clear c1
    try clear p2
    try clear c4
    try clear c7
    try clear c10
    try clear c11
    try clear hcz12_0
    try clear hcz12_1
    try clear hcz13_0
    try clear hcz13_1
    try clear hcz5_0
    try clear hcz5_1
    try clear hfz12_0
    try clear hfz12_1
    try clear hfz13_0
    try clear hfz13_1
    try clear hfz5_0
    try clear hfz5_1
    obtain ⟨x13_1, x184001_1, u184001, rfl, HA, HK1, HO_184001, BK178, BK179, BK183, HB⟩ := hrel
    cases gk with
    | zero => exact absurd HA.out (by simp [impl_Cards_own.l0])
    | succ k1 =>
      have H := HA.out
      clear HA
      simp only [impl_Cards_own.l0] at H
      by_cases c14 : x13_1 < (l0_1.length : Int)
      · rw [if_pos c14] at H
        have c14b0 : decide (x13_1 < (l0_1.length : Int)) = true := decide_eq_true c14
        clear c14
        by_cases c15 : 0 ≤ x13_1
        · rw [if_pos c15] at H
          have c15b0 : decide (0 ≤ x13_1) = true := decide_eq_true c15
          clear c15
          by_cases c16 : x13_1 < (l0_1.length : Int)
          · rw [if_pos c16] at H
            have c16b0 : decide (x13_1 < (l0_1.length : Int)) = true := decide_eq_true c16
            clear c16
            replace H := Option.bind_eq_some_iff.mp H
            obtain ⟨t185, A170, H⟩ := H
            replace H : (if x184001_1.length < 5864062014805 then (impl_Cards_own.l0 k1 l0_1 (l0_1.length : Int) (wrap64 (x13_1 + 1)) a0_0 (x184001_1 ++ [t185])) else (none)) = some (r1, r2) := H
            have A17 := Aside0.mk A170
            clear A170
            by_cases c18 : x184001_1.length < 5864062014805
            · rw [if_pos c18] at H
              have LMc18 := Aside0.mk c18
              clear c18
              obtain ⟨y188, hy188⟩ : ∃ y_ : List (List Int), y_ = (x184001_1 ++ [t185]) := ⟨_, rfl⟩
              replace H : (impl_Cards_own.l0 k1 l0_1 (l0_1.length : Int) (wrap64 (x13_1 + 1)) a0_0 y188) = some (r1, r2) := by first | (rw [hy188]; with_reducible exact H) | (have H2_ := (Option.bind_some _ _).symm.trans H; rw [hy188]; with_reducible exact H2_) | (have H2_ := (Option.bind_some _ _).symm.trans H; with_reducible exact H2_) | with_reducible exact H | (rw [hy188]; exact H) | exact H
              have Ny188 := Aside0.mk hy188
              clear hy188
              have H' := Aside0.mk H
              clear H
              have p184 : 0 ≤ (x13_1 : Int) := of_decide_eq_true (by first | (with_reducible assumption) | assumption)
              have q184 : x13_1 < (l0_1.length : Int) := of_decide_eq_true (by first | (with_reducible assumption) | assumption)
              obtain ⟨ad184, A184_0, c184_0, e184, hx184_0, hl184_0, hi184_0⟩ := at_L1 HR0_1.out x13_1 p184 q184
              cases e184
              replace hx184_0 := (HB.out.cell (World.block_lt_of_cell? w _ hx184_0)).trans hx184_0
              have HR184_0 := Aside0.mk hi184_0
              have HC184_0 := Aside0.mk hl184_0
              clear hi184_0 hl184_0
              replace p184 := eq_true p184
              replace q184 := eq_true q184
              try go_wp2
              have n0_ := Aside0.mk (Kd.S_drew HO_184001.out)
              have n1_ := Aside0.mk (blk_drew BK178.out)
              have n2_ := Aside0.mk (blk_drew BK179.out)
              have n3_ := Aside0.mk (blk_drew BK183.out)
              have n4_ := Aside0.mk (below_drew1 HB.out)
              clear HO_184001
              clear BK178
              clear BK179
              clear BK183
              clear HB
              have HO_184001 := n0_
              have BK178 := n1_
              have BK179 := n2_
              have BK183 := n3_
              have HB := n4_
              clear n0_ n1_ n2_ n3_ n4_
              refine start_ (n := 8) (S := fun w' => w'.cell? ⟨gb183, 0, none⟩ = some (.int .i64 a0_0) ∧ w'.cell? ⟨gb183, 1, none⟩ = some (u184001)) (ds := [7]) #[false, false, false, false, false, false, false, false] (by kernel_rfl) rfl rfl ⟨(blk_cell BK183.out 0).trans rfl, (blk_cell BK183.out 1).trans rfl⟩ (fun hHeld => ?_); refine with_tabW impl_Cards_own.tab5 impl_Cards_own.bits5 (fun HT_ HW_ => ?_)
              generalize wr.drew = w19 at HO_184001 BK178 BK179 BK183 HB hHeld ⊢
              refine pure_ (i := 0) (N := some 17) (v := ?_) (a' := ?_) #[true, false, false, false, false, false, false, false] rfl rfl (any_of HT_.out (by kernel_rfl)) (fun _ _ _ h => h) (Or.inl ⟨by rfl, ?_⟩) ?_ ?_
              rotate_left
              · intro w'
                go_simp
                with_reducible rfl
              rotate_left
              · simp only [Act.put, List.setIfInBounds_toArray, List.set_cons_zero, List.set_cons_succ, i64_w, i32_w]
                rfl
              refine pure_ (i := 2) (N := some 19) (v := ?_) (a' := ?_) #[true, false, true, false, false, false, false, false] rfl rfl (any_of HT_.out (by kernel_rfl)) (fun _ _ _ h => h) (Or.inl ⟨by rfl, ?_⟩) ?_ ?_
              rotate_left
              · intro w'
                go_simp
                with_reducible rfl
              rotate_left
              · simp only [Act.put, List.setIfInBounds_toArray, List.set_cons_zero, List.set_cons_succ, i64_w, i32_w]
                rfl
              refine take_ (i := 1) (N := some 18) (v := ?_) (a' := ?_) #[true, true, true, false, false, false, false, false] rfl rfl (take_ofW HT_.out HW_.out (by kernel_rfl)) (fun _ _ _ h => h) (Or.inl ⟨by rfl, ?_⟩) hHeld ?_ ?_
              rotate_left
              · rintro w' ⟨s0, s1⟩
                go_simp
                with_reducible rfl
              rotate_left
              · simp only [Act.put, List.setIfInBounds_toArray, List.set_cons_zero, List.set_cons_succ, i64_w, i32_w]
                rfl
              refine one_ (i := 3) (N := some 20) #[true, true, true, true, false, false, false, false] rfl rfl (one_of HT_.out (by kernel_rfl)) (by decide) (fun K hK => ?_)
              refine goes_ Try.func77 (by kernel_rfl) rfl #[.slice A184_0 (rd_L1 l0_1 x13_1).length c184_0] (by rfl) rfl rfl (by (try simp only [List.map_toArray, List.map_cons, List.map_nil]); first | done | rfl | (simp only [List.length_drop, List.length_take]; rfl)) ?_
              with_reducible refine (slices_Clone_int_int.calls _ _ (rd_L1 l0_1 x13_1) t185 _ ?side1 ?side2 A17.out).mono ?_
              (case side1 => repeat (first | exact (Kd.C_below HR184_0.out HB.out) | (with_reducible refine Kd.C_alloc ?_ _) | (with_reducible refine Kd.C_drewN ?_ _) | (with_reducible refine Kd.C_drew ?_)))
              (case side2 => exact HC184_0.out)
              rintro e w20 ⟨v186, rfl, ho0, hb⟩
              refine ⟨_, rfl, ?_⟩
              have n0_ := Aside0.mk (Kd.S_elder' (by (with_reducible repeat (first | apply Kd.S_alloc | apply Kd.S_drewN | apply Kd.S_drew)); exact HO_184001.out) (Kd.R_base ho0) hb)
              have n1_ := Aside0.mk (Kd.R_lower ho0 (below_size (by repeat (first | (with_reducible first | exact HB.out | apply below_alloc | apply pw_below_drewN | apply below_drew1 | refine below_set ?_ GE178.out | refine below_set ?_ GE179.out | refine below_set ?_ GE183.out) | exact HB.out))))
              have n2_ := Aside0.mk (blk_below (g := gb178) (o := .cells #[.int .i64 a0_0, .slice (some ad184) l0_1.length c0_1] 46 (0, 0)) (by (with_reducible repeat (first | refine blk_drewN ?_ _ | refine blk_drew ?_ | refine blk_alloc ?_ _)); exact BK178.out) hb)
              have n3_ := Aside0.mk (blk_below (g := gb179) (o := .cells #[.int .i64 0, .slice none 0 0] 46 (0, 0)) (by (with_reducible repeat (first | refine blk_drewN ?_ _ | refine blk_drew ?_ | refine blk_alloc ?_ _)); exact BK179.out) hb)
              have n4_ := Aside0.mk (blk_below (g := gb183) (o := .cells #[.int .i64 a0_0, u184001] 46 (0, 0)) (by (with_reducible repeat (first | refine blk_drewN ?_ _ | refine blk_drew ?_ | refine blk_alloc ?_ _)); exact BK183.out) hb)
              have n5_ := Aside0.mk (below_step (by repeat (first | (with_reducible first | exact HB.out | apply below_alloc | apply pw_below_drewN | apply below_drew1 | refine below_set ?_ GE178.out | refine below_set ?_ GE179.out | refine below_set ?_ GE183.out) | exact HB.out)) hb)
              clear HO_184001
              clear BK178
              clear BK179
              clear BK183
              clear HB
              have HO_184001 := n0_
              have HO187 := n1_
              have BK178 := n2_
              have BK179 := n3_
              have BK183 := n4_
              have HB := n5_
              clear n0_ n1_ n2_ n3_ n4_ n5_
              (try clear hb)
              (try clear hb2)
              (try clear hk)
              (try clear hi)
              (try clear ho0)
              obtain ⟨Ao22, co22, eo22⟩ := Kd.R_slice HO187.out
              (first | subst eo22 | (injection eo22 with f1_ f2_ f3_; have f4_ := f1_.symm; have f5_ := f3_.symm; clear f1_ f2_ f3_; subst f4_; subst f5_))
              refine hK.out _ _ ⟨(blk_cell BK183.out 0).trans rfl, (blk_cell BK183.out 1).trans rfl⟩ (fun hHeld => ?_)
              clear hK K
              refine norm_ (a' := ?_) ?_ ?_
              rotate_left
              · show Act.put _ (some 20) _ = _
                simp only [Act.put, List.setIfInBounds_toArray, List.set_cons_zero, List.set_cons_succ, i64_w, i32_w]
                rfl
              refine one_ (i := 4) (N := some 21) #[true, true, true, true, true, false, false, false] rfl rfl (one_of HT_.out (by kernel_rfl)) (by decide) (fun K hK => ?_)
              refine value_ (w1 := ?_) (v := ?_) (by rfl) rfl ?_ ?_
              rotate_left 2
              · go_simp
                constructor
                · rfl
                · rfl
              refine hK.out _ _ ⟨(blk_cell (blk_alloc BK183.out _) 0).trans rfl, (blk_cell (blk_alloc BK183.out _) 1).trans rfl⟩ (fun hHeld => ?_)
              clear hK K
              refine norm_ (a' := ?_) ?_ ?_
              rotate_left
              · show Act.put _ (some 21) _ = _
                simp only [Act.put, List.setIfInBounds_toArray, List.set_cons_zero, List.set_cons_succ, i64_w, i32_w]
                rfl
              refine one_ (i := 5) (N := some 22) #[true, true, true, true, true, true, false, false] rfl rfl (one_of HT_.out (by kernel_rfl)) (by decide) (fun K hK => ?_)
              refine Kd.S_append_step (Kd.slice 3 (Kd.int .i64)) (w0 := w) w.heap.size (by rfl) (.tmp 18) (.tmp 21) 38 26 (.slice none 0 0) 24 rfl Try.underlying38 info26 rfl (by decide) (by omega) u184001 x184001_1 t185 [.slice Ao22 t185.length co22] (fun _ => True) (fun k_ => some k_ = (.slice Ao22 t185.length co22 : Value).ownBlock) rfl rfl ?aP (fun k_ hk_ => ((Kd.R_mono (ok' := fun k_ => ((fun _ => True)) k_ ∧ some k_ ≠ (u184001 : Value).ownBlock) (Kd.R_apart' (HO187.out) (Kd.S_typed HO_184001.out) (by decide)) (fun k_ hk => ⟨trivial, hk.2⟩))).1 k_ hk_.symm) ?aF ?aO ?aB ?aS ?aL ?_
              (case aP => exact Kd.M_row (Kd.R_mono (Kd.R_tight rfl (Kd.R_mono (ok' := fun k_ => ((fun _ => True)) k_ ∧ some k_ ≠ (u184001 : Value).ownBlock) (Kd.R_apart' (HO187.out) (Kd.S_typed HO_184001.out) (by decide)) (fun k_ hk => ⟨trivial, hk.2⟩))) (fun _ h_ => h_)))
              (case aB => exact (by repeat (first | (with_reducible first | exact HB.out | apply below_alloc | apply pw_below_drewN | apply below_drew1 | refine below_set ?_ GE178.out | refine below_set ?_ GE179.out | refine below_set ?_ GE183.out) | exact HB.out)))
              (case aF => exact (fun _ _ => trivial))
              (case aO => exact (by (with_reducible repeat (first | apply Kd.S_alloc | apply Kd.S_drewN | apply Kd.S_drew)); exact Kd.S_mono HO_184001.out (fun k_ hk => ⟨trivial, fun e_ => hk.2 e_⟩)))
              (case aS => exact (below_size (by repeat (first | (with_reducible first | exact HB.out | apply below_alloc | apply pw_below_drewN | apply below_drew1 | refine below_set ?_ GE178.out | refine below_set ?_ GE179.out | refine below_set ?_ GE183.out) | exact HB.out))))
              (case aL => have := LMc18.out; omega)
              intro v189 w21 ho hb hg hat
              rw [← Ny188.out] at ho
              have n0_ := Aside0.mk (blk_grown (g := gb178) (o := .cells #[.int .i64 a0_0, .slice (some ad184) l0_1.length c0_1] 46 (0, 0)) (by (with_reducible repeat (first | refine blk_drewN ?_ _ | refine blk_drew ?_ | refine blk_alloc ?_ _)); exact BK178.out) hg (Kd.S_ne HO_184001.out BK178.out (by decide)))
              have n1_ := Aside0.mk (blk_grown (g := gb179) (o := .cells #[.int .i64 0, .slice none 0 0] 46 (0, 0)) (by (with_reducible repeat (first | refine blk_drewN ?_ _ | refine blk_drew ?_ | refine blk_alloc ?_ _)); exact BK179.out) hg (Kd.S_ne HO_184001.out BK179.out (by decide)))
              have n2_ := Aside0.mk (blk_grown (g := gb183) (o := .cells #[.int .i64 a0_0, u184001] 46 (0, 0)) (by (with_reducible repeat (first | refine blk_drewN ?_ _ | refine blk_drew ?_ | refine blk_alloc ?_ _)); exact BK183.out) hg (Kd.S_ne HO_184001.out BK183.out (by decide)))
              have n3_ := Aside0.mk (hb)
              have n4_ := Aside0.mk (ho)
              clear BK178
              clear BK179
              clear BK183
              clear HB
              clear HO_184001
              clear HO187
              have BK178 := n0_
              have BK179 := n1_
              have BK183 := n2_
              have HB := n3_
              have HO190 := n4_
              clear n0_ n1_ n2_ n3_ n4_
              clear ho hb hg hat
              obtain ⟨Ao23, co23, eo23⟩ := Kd.S_slice HO190.out
              (first | subst eo23 | (injection eo23 with f1_ f2_ f3_; have f4_ := f1_.symm; have f5_ := f3_.symm; clear f1_ f2_ f3_; subst f4_; subst f5_))
              refine hK.out _ _ ⟨(blk_cell BK183.out 0).trans rfl, (blk_cell BK183.out 1).trans rfl⟩ (fun hHeld => ?_)
              clear hK K
              refine norm_ (a' := ?_) ?_ ?_
              rotate_left
              · show Act.put _ (some 22) _ = _
                simp only [Act.put, List.setIfInBounds_toArray, List.set_cons_zero, List.set_cons_succ, i64_w, i32_w]
                rfl
              refine pure_ (i := 6) (N := some 23) (v := ?_) (a' := ?_) #[true, true, true, true, true, true, true, false] rfl rfl (any_of HT_.out (by kernel_rfl)) (fun _ _ _ h => h) (Or.inl ⟨by rfl, ?_⟩) ?_ ?_
              rotate_left
              · intro w'
                go_simp
                with_reducible rfl
              rotate_left
              · simp only [Act.put, List.setIfInBounds_toArray, List.set_cons_zero, List.set_cons_succ, i64_w, i32_w]
                rfl
              refine last_ (i := 7) (N := none) #[true, true, true, true, true, true, true, true] rfl rfl (one_of HT_.out (by kernel_rfl)) (by decide) (fun K hK => ?_)
              have hs24 : w21.cell? ⟨gb183, 1, none⟩ = some (u184001) := (blk_cell BK183.out 1).trans rfl
              have hfs24 := blk_frozen BK183.out 1
              have hns24_0 := NB178_183.out
              have hns24_1 := NB179_183.out
              have hms24_0 := NB183_178.out
              have hms24_1 := NB183_179.out
              refine skip_ (w1 := ?_) (by rfl) rfl ?_ ?_
              rotate_left
              · go_simp
                rfl
              refine hK.out _ _ ?_
              clear hK K
              refine done_ (done_of HT_.out (by kernel_rfl)) ?_
              try go_wp2
              go_roundg k1
              case measure => have := HK1.out; omega
              case rel => exact ⟨(wrap64 (x13_1 + 1)), (y188), (.slice Ao23 y188.length co23), (by first | rfl | (simp; done) | (simp [*]; done)), H', ⟨by have := HK1.out; omega⟩, ⟨by (with_reducible repeat (first | apply Kd.S_alloc | apply Kd.S_drewN | apply Kd.S_drew)); exact Kd.S_mono (Kd.S_far (p := ⟨gb183, 1, none⟩) (Kd.S_types HO190.out BK183.out (by decide)) (fun _ hk => hk.2) (.slice Ao23 y188.length co23)) (fun _ hk => trivial)⟩, ⟨by (with_reducible repeat (first | refine blk_drewN ?_ _ | refine blk_drew ?_ | refine blk_alloc ?_ _)); refine blk_far ?_ NB178_183.out _; (with_reducible repeat (first | refine blk_drewN ?_ _ | refine blk_drew ?_ | refine blk_alloc ?_ _)); exact BK178.out⟩, ⟨by (with_reducible repeat (first | refine blk_drewN ?_ _ | refine blk_drew ?_ | refine blk_alloc ?_ _)); refine blk_far ?_ NB179_183.out _; (with_reducible repeat (first | refine blk_drewN ?_ _ | refine blk_drew ?_ | refine blk_alloc ?_ _)); exact BK179.out⟩, ⟨by (with_reducible repeat (first | refine blk_drewN ?_ _ | refine blk_drew ?_ | refine blk_alloc ?_ _)); refine blk_put (cs := #[.int .i64 a0_0, u184001]) ?_ 1 _ rfl; (with_reducible repeat (first | refine blk_drewN ?_ _ | refine blk_drew ?_ | refine blk_alloc ?_ _)); exact BK183.out⟩, ⟨by repeat (first | (with_reducible first | exact HB.out | apply below_alloc | apply pw_below_drewN | apply below_drew1 | refine below_set ?_ GE178.out | refine below_set ?_ GE179.out | refine below_set ?_ GE183.out) | exact HB.out)⟩⟩
            · rw [if_neg c18] at H
              exact absurd H (by simp)
          · rw [if_neg c16] at H
            exact absurd H (by simp)
        · rw [if_neg c15] at H
          exact absurd H (by simp)
      · rw [if_neg c14] at H
        have c14b0 : decide (x13_1 < (l0_1.length : Int)) = false := decide_eq_false c14
        clear c14
        simp only [Option.some.injEq, Prod.mk.injEq] at H
        obtain ⟨rfl, rfl⟩ := H
        have hnb25 := NB183_178.out
        have hnc25 := NB178_183.out
        have hnb26 := NB183_179.out
        have hnc26 := NB179_183.out
        have hcz27_0 : wr.cell? ⟨gb183, 0, none⟩ = some (.int .i64 a0_0) := (blk_cell BK183.out 0).trans rfl
        have hcz27_1 : wr.cell? ⟨gb183, 1, none⟩ = some (u184001) := (blk_cell BK183.out 1).trans rfl
        have hfz27_0 := blk_frozen BK183.out 0
        have hfz27_1 := blk_frozen BK183.out 1
        have hnb28 := NB179_178.out
        have hnc28 := NB178_179.out
        have hcz29_0 : wr.cell? ⟨gb179, 0, none⟩ = some (.int .i64 0) := (blk_cell BK179.out 0).trans rfl
        have hcz29_1 : wr.cell? ⟨gb179, 1, none⟩ = some (.slice none 0 0) := (blk_cell BK179.out 1).trans rfl
        have hfz29_0 := blk_frozen BK179.out 0
        have hfz29_1 := blk_frozen BK179.out 1
        obtain ⟨Ao30, co30, eo30⟩ := Kd.S_slice HO_184001.out
        subst eo30
        go_wp2
        refine bodyPost_ret (results_cell_row rfl _ _ gb179 46 #[.int .i64 a0_0, .slice Ao30 x184001_1.length co30] (0, 0) _ rfl (by (with_reducible repeat (first | refine blk_drewN ?_ _ | refine blk_drew ?_ | refine blk_alloc ?_ _)); refine blk_put (cs := #[.int .i64 a0_0, .slice none 0 0]) ?_ 1 _ rfl; (with_reducible repeat (first | refine blk_drewN ?_ _ | refine blk_drew ?_ | refine blk_alloc ?_ _)); refine blk_put (cs := #[.int .i64 0, .slice none 0 0]) ?_ 0 _ rfl; (with_reducible repeat (first | refine blk_drewN ?_ _ | refine blk_drew ?_ | refine blk_alloc ?_ _)); exact BK179.out) Try.underlying46 rfl (by kernel_rfl)) rfl ?_
        exact ⟨_, by first | rfl | (simp [errW_none, errW_some] <;> rfl) | (simp [*, errW_none, errW_some] <;> rfl), by (with_reducible repeat (first | apply Kd.S_alloc | apply Kd.S_drewN | apply Kd.S_drew)); exact Kd.S_mono (Kd.S_far (p := ⟨gb179, 1, none⟩) (Kd.S_far (p := ⟨gb179, 0, none⟩) (Kd.S_types HO_184001.out BK179.out (by decide)) (fun _ hk => hk.2) (.int .i64 a0_0)) (fun _ hk => hk.2) (.slice Ao30 x184001_1.length co30)) (fun _ hk => trivial), by repeat (first | (with_reducible first | exact HB.out | apply below_alloc | apply pw_below_drewN | apply below_drew1 | refine below_set ?_ GE178.out | refine below_set ?_ GE179.out | refine below_set ?_ GE183.out) | exact HB.out)⟩

/-! ### slices_Delete_int_int: function 127 -/
-- USES delete
set_option maxHeartbeats 1600000 in
set_option maxRecDepth 1000000 in
theorem delete_rows (base g n cap i : Nat) (xs : List Value) (w : World) (HO : w.ownsRow base 26 1 (.slice (some ⟨g, 0, none⟩) n cap) n xs) (h1x : ∀ u ∈ xs, u.oneCell' = true) (hi : i < n) (hn : n ≤ 1000000000) :
    Calls Try.prog 127 #[.slice (some ⟨g, 0, none⟩) n cap, .int .i64 i, .int .i64 ((i : Int) + 1)] w fun e w' => e = .returned (.slice (some ⟨g, 0, none⟩) (n - 1) cap) ∧ w'.ownsRow base 26 1 (.slice (some ⟨g, 0, none⟩) (n - 1) cap) (n - 1) (xs.take (i * 1) ++ xs.drop ((i + 1) * 1)) ∧ w.grownBy w' (some g) := by
  obtain ⟨m, rfl⟩ : ∃ m, n = i + 1 + m := ⟨n - (i + 1), by omega⟩
  have HO' := Aside0.mk HO
  clear HO
  have hi1 : (i : Int) < ((i + 1 + m : Nat) : Int) := by omega
  have hi2 : ((i : Int) + 1).toNat = i + 1 := by omega
  have hi3 : (i : Int) + 1 ≤ ((i + 1 + m : Nat) : Int) := by omega
  have hi4 : (0 : Int) ≤ (i : Int) + 1 := by omega
  have hi5 : (i : Int) ≤ (i : Int) + 1 := by omega
  have hi6 : ((i : Int) == (i : Int) + 1) = false := by simp; omega
  have hnc : i + 1 + m ≤ cap := by
    rcases HO'.out.2 with ⟨h, _⟩ | ⟨g', cap', cur, h, _, _, h2, _⟩
    · cases h
    · injection h with h1 h3 h4; omega
  have hi7 : (i : Int) + 1 ≤ (i : Int) + 1 + (m : Int) := by omega
  have hnc3 : (i : Int) + 1 + (m : Int) ≤ (cap : Int) := by omega
  have hnc2 : ((i + 1 + m : Nat) : Int) ≤ (cap : Int) := by omega
  have hl : xs.length = (i + 1 + m) * 1 := HO'.out.1
  have e31 : (i + 1) * 1 = i * 1 + 1 := by omega
  have hcell : ∀ j, j < (i + 1 + m) * 1 → w.drew.cell? ⟨g, j, none⟩ = xs[j]? := by
    intro j hj
    have := HO'.out.cells (g := g) rfl j (xs[j]'(by omega)) (List.getElem?_eq_getElem (by omega))
    rw [add_plain] at this
    rw [List.getElem?_eq_getElem (by omega)]
    exact this
  obtain ⟨A, hA, hnews⟩ : ∃ A : Addr, (if cap = i + 1 then some (⟨g, 0, none⟩ : Addr) else some ⟨g, (i + 1) * 1, none⟩) = some A ∧ Aside0 (∀ j u, (xs.drop ((i + 1) * 1))[j]? = some u → w.drew.cell? (A.add j) = some u) := by
    by_cases h : cap = i + 1
    · refine ⟨⟨g, 0, none⟩, by simp [h], ⟨fun j u hu => ?_⟩⟩
      rw [List.getElem?_eq_none (by rw [List.length_drop, hl]; omega)] at hu
      cases hu
    · refine ⟨⟨g, (i + 1) * 1, none⟩, by simp [h], ⟨fun j u hu => ?_⟩⟩
      have hj : j < (xs.drop ((i + 1) * 1)).length := (List.getElem?_eq_some_iff.1 hu).1
      rw [List.length_drop, hl] at hj
      rw [Addr.add_lit, hcell _ (by omega), ← hu, List.getElem?_drop]
  have s1 : Aside0 ((xs.drop ((i + 1) * 1)).length = m * 1) := ⟨by rw [List.length_drop, hl]; omega⟩
  have s2 : Aside0 (∀ u ∈ xs.drop ((i + 1) * 1), u.oneCell' = true) := ⟨fun u hu => h1x u (List.mem_of_mem_drop hu)⟩
  have hfz := own_frozen HO'.out
  have s3 : Aside0 (∀ j, j < (xs.drop ((i + 1) * 1)).length → (w.drew.cell? ⟨g, 0 + i * 1 + j, none⟩).isSome = true ∧ w.drew.frozen? ⟨g, 0 + i * 1 + j, none⟩ = false) := ⟨fun j hj => by
    rw [List.length_drop, hl] at hj
    rw [Nat.zero_add, hcell _ (by omega), List.getElem?_eq_getElem (by omega)]
    exact ⟨rfl, hfz _⟩⟩
  have hclr : (Builtin.clear_ #[38] 0 #[.slice (some ⟨g, (i + m) * 1, none⟩) (i + 1 + m - (i + m)) (cap - (i + m))]).run Try.prog (w.drew.setCells g (i * 1) (xs.drop ((i + 1) * 1))) = .ok (.tuple #[]) ((w.drew.setCells g (i * 1) (xs.drop ((i + 1) * 1))).setCells g ((i + m) * 1) [.slice none 0 0]) := by
    rw [show i + 1 + m - (i + m) = 1 by omega]
    refine run_clear_one _ 38 26 0 (.slice none 0 0) _ Try.underlying38 (fun _ => by kernel_rfl) (by kernel_rfl) (by simp [Value.oneCell']) g _ _ (fun j hj => ?_) (fun j hj => ?_)
    · refine World.isSome_setCells g _ _ _ _ ?_
      simp at hj
      rw [hcell _ (by omega), List.getElem?_eq_getElem (by omega)]
      rfl
    · rw [World.frozen?_setCells]; exact hfz _
  (try simp only [Nat.mul_one] at hclr)
  have hic : i ≤ cap := by omega
  obtain ⟨i0, hi0, hzz⟩ := Option.map_eq_some_iff.1 info26
  simp only [Prod.mk.injEq] at hzz
  obtain ⟨hz0, hz1, hz2⟩ := hzz
  have HC := Aside0.mk hcell
  have HL := Aside0.mk hl
  clear hcell hl e31 h1x hfz
  go_enter Try.func127, Try.ntmps127
  go_wp2_with fail
  go_region_law (refine step_append_room rfl (.tmp 22) (.tmp 25) 38 rfl 26 i0 1 Try.underlying38 hi0 hz1 g 0 i cap (by simp [Act.eval, Act.put]) A m (cap - (i + 1)) (xs.drop ((i + 1) * 1)) (by first | (simp [Act.eval, Act.put]; done) | (simp [Act.eval, Act.put]; simpa using hA)) s1.out hnews.out s2.out (by omega) s3.out ?_)
  go_wp2_with fail
  all_goals go_ret
  all_goals
    have hcut := own_cut (sz := 1) (zs := [.slice none 0 0]) (w := w.drew) (i := i) HO'.out (by omega) rfl
    rw [show i + 1 + m - 1 = i + m by omega] at hcut
    (try rw [show i + 1 + m - 1 = i + m by omega])
    (try simp only [Nat.mul_one] at hcut ⊢)
    first
      | exact ⟨rfl, hcut.1, ⟨hcut.2.os, hcut.2.tape, hcut.2.output, hcut.2.size, hcut.2.block⟩⟩
      | (rw [show cap = i + 1 by assumption] at hcut; exact ⟨rfl, hcut.1, ⟨hcut.2.os, hcut.2.tape, hcut.2.output, hcut.2.size, hcut.2.block⟩⟩)
theorem deleteR_rows {base : Nat} {ok : Nat → Prop} {v : Value} {l : List (List Int)} {i : Nat} {w : World} (HO : Kd.R (Kd.slice 3 (Kd.int .i64)) 26 w base ok v l) (hi : i < l.length) (hn : l.length ≤ 1000000000) :
    Calls Try.prog 127 #[v, .int .i64 i, .int .i64 ((i : Int) + 1)] w fun e w' => ∃ v', e = .returned v' ∧ Kd.R (Kd.slice 3 (Kd.int .i64)) 26 w' base ok v' (l.eraseIdx i) ∧ w.grownBy w' v.ownBlock := by
  obtain ⟨hok, inner, ho, hr⟩ := HO
  obtain ⟨g, cap, rfl, hb, hg⟩ := World.ownsRow.form ho (by omega)
  have h1 : ∀ u ∈ inner, u.oneCell' = true := by
    intro u hu
    obtain ⟨q, hq, rfl⟩ := List.getElem_of_mem hu
    have hq3 : q / (Kd.slice 3 (Kd.int .i64)).sz < l.length := (Nat.div_lt_iff_lt_mul (by decide)).2 (by rw [← hr.1]; exact hq)
    have := hr.2 (q / (Kd.slice 3 (Kd.int .i64)).sz) _ (List.getElem?_eq_getElem hq3)
    refine (Kd.slice 3 (Kd.int .i64)).K_one ((Kd.slice 3 (Kd.int .i64)).K_of_M this) _ ?_
    rw [List.mem_iff_getElem?]
    refine ⟨q % (Kd.slice 3 (Kd.int .i64)).sz, ?_⟩
    rw [List.getElem?_take_of_lt (Nat.mod_lt _ (by decide)), List.getElem?_drop, Nat.mul_comm, Nat.div_add_mod, List.getElem?_eq_getElem hq]
  refine (delete_rows base g l.length cap i inner w ho h1 hi hn).mono ?_
  rintro e w' ⟨rfl, ho', hg'⟩
  refine ⟨_, rfl, ⟨fun k hk => hok k hk, _, ?_, reps_erase (hr.imp_ (fun _ _ hp => ?_)) hi⟩, hg'⟩
  · rw [List.length_eraseIdx_of_lt hi]; exact ho'
  · exact Kd.M_grown hp hg' (fun k hk => hk.2)



/-! ### impl_Cards_dropped: function 80 -/
-- GIVEN (loop.example/g01305/impl.Cards).dropped rounds=1 only=1
-- NEEDS (loop.example/g01305/impl.Cards).own ; slices.Delete[[][]int,[]int]
theorem deleteT (f : Nat → Nat) {base : Nat} {ok : Nat → Prop} {v : Value} {l : List (List Int × Nat)} {i : Nat} {w : World} (HO : Kd.R (Kd.tag f (Kd.slice 3 (Kd.int .i64))) 26 w base ok v l) (hi : i < l.length) (hn : l.length ≤ 1000000000) :
    Calls Try.prog 127 #[v, .int .i64 i, .int .i64 ((i : Int) + 1)] w fun e w' => ∃ v', e = .returned v' ∧ Kd.R (Kd.tag f (Kd.slice 3 (Kd.int .i64))) 26 w' base ok v' (l.eraseIdx i) ∧ w.grownBy w' v.ownBlock := by
  obtain ⟨hok, inner, ho, hr⟩ := HO
  obtain ⟨g, cap, rfl, hb, hg⟩ := World.ownsRow.form ho (by omega)
  have hsz : (Kd.tag f (Kd.slice 3 (Kd.int .i64))).sz = 1 := rfl
  have h1 : ∀ u ∈ inner, u.oneCell' = true := by
    intro u hu
    obtain ⟨q, hq, rfl⟩ := List.getElem_of_mem hu
    have hq3 : q < l.length := by have := hr.1; rw [hsz, Nat.mul_one] at this; rw [← this]; exact hq
    have := hr.2 q _ (List.getElem?_eq_getElem hq3)
    refine (Kd.tag f (Kd.slice 3 (Kd.int .i64))).K_one ((Kd.tag f (Kd.slice 3 (Kd.int .i64))).K_of_M this) _ ?_
    rw [List.mem_iff_getElem?]
    refine ⟨0, ?_⟩
    rw [hsz, List.getElem?_take_of_lt (by omega), List.getElem?_drop, Nat.mul_one, Nat.add_zero, List.getElem?_eq_getElem hq]
  refine (delete_rows base g l.length cap i inner w ho h1 hi hn).mono ?_
  rintro e w' ⟨rfl, ho', hg'⟩
  refine ⟨_, rfl, ⟨fun k hk => hok k hk, _, ?_, reps_erase (hr.imp_ (fun _ _ hp => ?_)) hi⟩, hg'⟩
  · rw [List.length_eraseIdx_of_lt hi]; exact ho'
  · exact Kd.M_grown hp hg' (fun k hk => hk.2)
theorem deleteS {base : Nat} {ok : Nat → Prop} {v : Value} {l : List (List Int)} {i : Nat} {w : World} (HO : Kd.S (Kd.slice 3 (Kd.int .i64)) 26 w base ok v l) (hi : i < l.length) (hn : l.length ≤ 1000000000) :
    Calls Try.prog 127 #[v, .int .i64 i, .int .i64 ((i : Int) + 1)] w fun e w' => ∃ v', e = .returned v' ∧ Kd.S (Kd.slice 3 (Kd.int .i64)) 26 w' base ok v' (l.eraseIdx i) ∧ w.grownBy w' v.ownBlock := by
  obtain ⟨f, hR⟩ := HO
  refine (deleteT f hR (by rw [List.length_zipIdx]; exact hi) (by rw [List.length_zipIdx]; exact hn)).mono ?_
  rintro e w' ⟨v', rfl, h', hg⟩
  exact ⟨v', rfl, Kd.S_erase h', hg⟩
def impl_Cards_dropped.f (k : Nat) (a0 : Int) (l0 : List (List Int)) (a1 : Int) : Option (Int × List (List Int)) := (impl_Cards_own.f k a0 l0).bind fun r => if 0 ≤ a1 ∧ a1 < (r.2.length : Int) ∧ r.2.length ≤ 1000000 then some (r.1, r.2.eraseIdx a1.toNat) else none
theorem impl_Cards_dropped.mono : ∀ (a0 : Int) (l0 : List (List Int)) (a1 : Int) k, LeO (impl_Cards_dropped.f k a0 l0 a1) (impl_Cards_dropped.f (k + 1) a0 l0 a1) := by
  intro a0 l0 a1 k r h
  unfold impl_Cards_dropped.f at h ⊢
  obtain ⟨x, h1, h2⟩ := Option.bind_eq_some_iff.mp h
  rw [impl_Cards_own.mono a0 l0 k x h1]
  exact h2
set_option maxHeartbeats 4000000 in
set_option maxRecDepth 100000 in
theorem impl_Cards_dropped.calls (k : Nat) (a0_0 : Int) (A0_1 : Option Addr) (c0_1 : Nat) (l0_1 : List (List Int)) (a1 : Int) (r1 : Int) (r2 : List (List Int)) (w : World) (hr0_1 : Kd.C (Kd.slice 3 (Kd.int .i64)) w A0_1 l0_1.length l0_1) (hc0_1 : l0_1.length ≤ c0_1) (h : impl_Cards_dropped.f k a0_0 l0_1 a1 = some (r1, r2)) :
    Calls Try.prog 80 #[.agg #[.int .i64 a0_0, .slice A0_1 l0_1.length c0_1], .int .i64 a1] w fun e w' => ∃ v1_ : Value, e = .returned (.agg #[.int .i64 r1, v1_]) ∧ Kd.S (Kd.slice 3 (Kd.int .i64)) 26 w' w.heap.size (fun _ => True) v1_ r2 ∧ Below w.heap.size w w' := by
  unfold impl_Cards_dropped.f at h
  obtain ⟨⟨n, l⟩, h1, h⟩ := Option.bind_eq_some_iff.mp h
  by_cases c : 0 ≤ a1 ∧ a1 < (l.length : Int) ∧ l.length ≤ 1000000
  case neg => rw [if_neg c] at h; cases h
  rw [if_pos c] at h
  obtain ⟨rfl, rfl⟩ := Prod.mk.inj (Option.some.inj h)
  obtain ⟨i, rfl⟩ := Int.eq_ofNat_of_zero_le c.1
  have hi : i < l.length := by have := c.2.1; omega
  have hn : l.length ≤ 1000000 := c.2.2
  have ha : (i : Int) + 1 ≤ 9223372036854775807 := by omega
  have HR := Aside0.mk hr0_1
  have HF := Aside0.mk h1
  have HH := Aside0.mk hi
  have HN := Aside0.mk hn
  -- the argument's box, and the result's
  have HX0 := Aside0.mk (blk_alloc (blk_new w (.cells #[.int .i64 a0_0, .slice A0_1 l0_1.length c0_1] 46)) (.cells #[.int .i64 0, .slice none 0 0] 46))
  have HY0 : Aside0 (((w.alloc (.cells #[.int .i64 a0_0, .slice A0_1 l0_1.length c0_1] 46)).alloc (.cells #[.int .i64 0, .slice none 0 0] 46)).heap[w.heap.size + 1]? = some (.cells #[.int .i64 0, .slice none 0 0] 46 (0, 0))) := ⟨by
    have := blk_new (w.alloc (.cells #[.int .i64 a0_0, .slice A0_1 l0_1.length c0_1] 46)) (.cells #[.int .i64 0, .slice none 0 0] 46)
    simpa using this⟩
  have HB0 := Aside0.mk (below_alloc (below_alloc (Below.refl w.heap.size w) (.cells #[.int .i64 a0_0, .slice A0_1 l0_1.length c0_1] 46)) (.cells #[.int .i64 0, .slice none 0 0] 46))
  clear h h1 hr0_1 hi hn c
  go_enter Try.func80, Try.ntmps80
  go_wp2_with (first
    | (go_at_call 76; refine (impl_Cards_own.calls k a0_0 A0_1 c0_1 l0_1 n l _ (Kd.C_below HR.out HB0.out) hc0_1 HF.out).mono ?_; rintro e w1 ⟨v1, rfl, ho1, hb1⟩; obtain ⟨A1, c1, rfl⟩ := Kd.S_slice ho1; have HO1 := Aside0.mk ho1; have HY1 := Aside0.mk (blk_below HY0.out hb1); have HB1 := Aside0.mk (below_step HB0.out hb1); have HL1 := Aside0.mk (Nat.le_trans HB0.out.size (Nat.le_refl _)); clear ho1 hb1)
    | (go_at_call 127; refine Aside0.out ?_))
  refine Aside0.mk ?_
  refine (deleteS (Kd.S_alloc HO1.out (.cells #[.int .i64 n, .slice A1 l.length c1] 46)) HH.out (by have := HN.out; omega)).mono ?_
  rintro e w2 ⟨v2, rfl, ho2, hg2⟩
  obtain ⟨A2, c2, rfl⟩ := Kd.S_slice ho2
  have HX2 := Aside0.mk (blk_grown (blk_new w1 (.cells #[.int .i64 n, .slice A1 l.length c1] 46)) hg2 (Kd.S_ne (Kd.S_alloc HO1.out (.cells #[.int .i64 n, .slice A1 l.length c1] 46)) (blk_new w1 (.cells #[.int .i64 n, .slice A1 l.length c1] 46)) (by decide)))
  have HY2 := Aside0.mk (blk_grown (blk_alloc HY1.out (.cells #[.int .i64 n, .slice A1 l.length c1] 46)) hg2 (Kd.S_ne (Kd.S_alloc HO1.out (.cells #[.int .i64 n, .slice A1 l.length c1] 46)) (blk_alloc HY1.out (.cells #[.int .i64 n, .slice A1 l.length c1] 46)) (by decide)))
  have hlt : w.heap.size + 1 < w1.heap.size := blk_lt HY1.out
  have hne : w.heap.size + 1 ≠ w1.heap.size := by omega
  have HS1 := Kd.S_lower (base' := w.heap.size) (Kd.S_alloc HO1.out (.cells #[.int .i64 n, .slice A1 l.length c1] 46)) (by simp; omega)
  obtain ⟨inner_, hown_⟩ := Kd.S_own HS1
  have HB2 : Aside0 (Below w.heap.size w w2) := ⟨(below_alloc HB1.out (.cells #[.int .i64 n, .slice A1 l.length c1] 46)).grown hg2 (below_alloc HB1.out (.cells #[.int .i64 n, .slice A1 l.length c1] 46)).size (own_base hown_)⟩
  clear hown_ HS1
  have HO2 := Aside0.mk ho2
  generalize hm : (l.eraseIdx i).length = m at *
  have HX3 := Aside0.mk (blk_put HX2.out 1 (.slice A2 m c2) (cs' := #[.int .i64 n, .slice A2 m c2]) rfl)
  have HY3 := Aside0.mk (blk_far HY2.out (p := ⟨w1.heap.size, 1, none⟩) hne (.slice A2 m c2))
  have hx0 : w2.cell? ⟨w1.heap.size, 1, none⟩ = some (.slice A1 l.length c1) := (blk_cell HX2.out 1).trans rfl
  have hx1 := blk_frozen HX2.out 1
  have hx3 : (w2.setCell ⟨w1.heap.size, 1, none⟩ (.slice A2 m c2)).cell? ⟨w1.heap.size, 0, none⟩ = some (.int .i64 n) := (blk_cell HX3.out 0).trans rfl
  have hx4 : (w2.setCell ⟨w1.heap.size, 1, none⟩ (.slice A2 m c2)).cell? ⟨w1.heap.size, 1, none⟩ = some (.slice A2 m c2) := (blk_cell HX3.out 1).trans rfl
  have hy3 : (w2.setCell ⟨w1.heap.size, 1, none⟩ (.slice A2 m c2)).cell? ⟨w.heap.size + 1, 0, none⟩ = some (.int .i64 0) := (blk_cell HY3.out 0).trans rfl
  have hy4 : (w2.setCell ⟨w1.heap.size, 1, none⟩ (.slice A2 m c2)).cell? ⟨w.heap.size + 1, 1, none⟩ = some (.slice none 0 0) := (blk_cell HY3.out 1).trans rfl
  have hy5 := blk_frozen HY3.out 0
  have hy6 := blk_frozen HY3.out 1
  clear ho2 hg2
  have HYE := Aside0.mk (blk_put (blk_put HY3.out 0 (.int .i64 n) (cs' := #[.int .i64 n, .slice none 0 0]) rfl) 1 (.slice A2 m c2) (cs' := #[.int .i64 n, .slice A2 m c2]) rfl)
  have HS3 := Aside0.mk (Kd.S_set HO2.out HX2.out (by decide) 1 (.slice A2 m c2))
  have HS4 := Aside0.mk (Kd.S_set HS3.out HY3.out (by decide) 0 (.int .i64 n))
  have HS5 := Aside0.mk (Kd.S_set HS4.out (blk_put HY3.out 0 (.int .i64 n) (cs' := #[.int .i64 n, .slice none 0 0]) rfl) (by decide) 1 (.slice A2 m c2))
  have HB3 := Aside0.mk (Below.setCell HB2.out (p := ⟨w1.heap.size, 1, none⟩) (Nat.le_of_lt (Nat.lt_of_le_of_lt (Nat.le_succ _) hlt)) (.slice A2 m c2))
  have HB4 := Aside0.mk (Below.setCell HB3.out (p := ⟨w.heap.size + 1, 0, none⟩) (Nat.le_succ _) (.int .i64 n))
  have HB5 := Aside0.mk (Below.setCell HB4.out (p := ⟨w.heap.size + 1, 1, none⟩) (Nat.le_succ _) (.slice A2 m c2))
  have HLE : Aside0 (w.heap.size ≤ ((w.alloc (.cells #[.int .i64 a0_0, .slice A0_1 l0_1.length c0_1] 46)).alloc (.cells #[.int .i64 0, .slice none 0 0] 46)).heap.size) := ⟨HB0.out.size⟩
  clear hlt hne
  go_wp2
  refine bodyPost_ret (results_cell_row rfl _ _ (w.heap.size + 1) 46 #[.int .i64 n, .slice A2 m c2] (0, 0) _ rfl HYE.out Try.underlying46 rfl (by kernel_rfl)) rfl ?_
  exact ⟨_, rfl, by rw [Int.toNat_natCast]; exact Kd.S_lower HS5.out HLE.out, HB5.out⟩


/-! ### impl_DropCard: function 38 -/
def impl_DropCard.f (k : Nat) (a0_0 : Int) (l0_1 : List (List Int)) (a1 : Int) : Option (Int × (List (List Int)) × Bool) := (impl_isNumbered.f k a0_0 l0_1 a1).bind fun t193 => (if t193 = true then ((impl_Cards_dropped.f k a0_0 l0_1 a1).bind fun bt194 => (some (bt194.1, bt194.2, true))) else (some (0, ([] : List (List Int)), false)))
theorem impl_DropCard.mono : ∀ a0 a1 a2 k, LeO (impl_DropCard.f k a0 a1 a2) (impl_DropCard.f (k + 1) a0 a1 a2) := by
  intro a0 a1 a2 k
  unfold impl_DropCard.f
  repeat' first
      | (with_reducible exact impl_Cards_dropped.mono _ _ _ _)
      | (with_reducible exact impl_isNumbered.mono _ _ _ _)
      | (with_reducible exact LeO.refl _)
      | (with_reducible exact LeO.none _)
      | (with_reducible refine LeO.ite ?_ ?_)
      | (with_reducible refine LeO.bind ?_ (fun _ => ?_))
      | exact impl_Cards_dropped.mono _ _ _ _
      | exact impl_isNumbered.mono _ _ _ _
      | exact LeO.none _
      | refine LeO.ite ?_ ?_
      | refine LeO.bind ?_ (fun _ => ?_)
set_option maxHeartbeats 8000000 in
set_option maxRecDepth 100000 in
theorem impl_DropCard.calls (k : Nat) (a0_0 : Int) (A0_1 : Option Addr) (c0_1 : Nat) (l0_1 : List (List Int)) (a1 : Int) (r1 : Int) (r2 : List (List Int)) (r3 : Bool) (w : World) (hr0_1 : Kd.C (Kd.slice 3 (Kd.int .i64)) w A0_1 l0_1.length l0_1) (hc0_1 : l0_1.length ≤ c0_1) (h : impl_DropCard.f k a0_0 l0_1 a1 = some (r1, r2, r3)) :
    Calls Try.prog 38 #[.agg #[.int .i64 a0_0, .slice A0_1 l0_1.length c0_1], .int .i64 a1] w fun e w' => ∃ v1_ : Value, e = .returned (.tuple #[.agg #[.int .i64 r1, v1_], .bool r3]) ∧ Kd.S (Kd.slice 3 (Kd.int .i64)) 26 w' w.heap.size (fun _ => True) v1_ r2 ∧ Below w.heap.size w w' := by
  have hu46 := Try.underlying46
  have HR0_1 := Aside0.mk hr0_1
  have HC0_1 := Aside0.mk hc0_1
  clear hr0_1 hc0_1
  have HB := Aside0.mk (Below.refl w.heap.size w)
  have H : ((impl_isNumbered.f k a0_0 l0_1 a1).bind fun t193 => (if t193 = true then ((impl_Cards_dropped.f k a0_0 l0_1 a1).bind fun bt194 => (some (bt194.1, bt194.2, true))) else (some (0, ([] : List (List Int)), false)))) = some (r1, r2, r3) := h
  clear h
  replace H := Option.bind_eq_some_iff.mp H
  obtain ⟨t193, A30, H⟩ := H
  replace H : (if t193 = true then ((impl_Cards_dropped.f k a0_0 l0_1 a1).bind fun bt194 => (some (bt194.1, bt194.2, true))) else (some (0, ([] : List (List Int)), false))) = some (r1, r2, r3) := H
  have A3 := Aside0.mk A30
  clear A30
  by_cases c4 : t193 = true
  · subst c4
    have H1 : ((impl_Cards_dropped.f k a0_0 l0_1 a1).bind fun bt194 => (some (bt194.1, bt194.2, true))) = some (r1, r2, r3) := by rw [if_pos rfl] at H; exact H
    clear H
    have H := H1
    clear H1
    replace H := Option.bind_eq_some_iff.mp H
    obtain ⟨⟨t194, t195⟩, A50, H⟩ := H
    replace H : (some (t194, t195, true)) = some (r1, r2, r3) := H
    have A5 := Aside0.mk A50
    clear A50
    simp only [Option.some.injEq, Prod.mk.injEq] at H
    obtain ⟨rfl, rfl, rfl⟩ := H
    go_enter Try.func38, Try.ntmps38
    go_wp2_with (first | ((with_reducible refine gate_dst (N := 2) rfl ?_); refine box_event ?hg (N := 2) ?hd (cs := #[.int .i64 a0_0, .slice A0_1 l0_1.length c0_1]) (t := 46) ?hr ?_; (case hd => rfl); (case hg => rfl); (case hr => first | (go_simp; done) | (go_simp; rfl)); intro gb191 hg w6 hbox hb; have n0_ := Aside0.mk (below_step (by repeat (first | (with_reducible first | exact HB.out | apply below_alloc | apply pw_below_drewN | apply below_drew1) | exact HB.out)) hb); have n1_ := Aside0.mk (hbox); have n2_ := Aside0.mk ((by rw [hg]; exact (below_size (by repeat (first | (with_reducible first | exact HB.out | apply below_alloc | apply pw_below_drewN | apply below_drew1) | exact HB.out))) : w.heap.size ≤ gb191)); have n3_ := Aside0.mk ((by rw [hg]; exact (below_size (by repeat (first | (with_reducible first | exact HB.out | apply below_alloc | apply pw_below_drewN | apply below_drew1) | exact HB.out))) : w.heap.size ≤ gb191)); clear HB; have HB := n0_; have BK191 := n1_; have GW191 := n2_; have GE191 := n3_; clear n0_ n1_ n2_ n3_; clear hb hbox hg) | ((with_reducible refine gate_dst (N := 4) rfl ?_); refine box_event ?hg (N := 4) ?hd (cs := #[.int .i64 0, .slice none 0 0]) (t := 46) ?hr ?_; (case hd => rfl); (case hg => rfl); (case hr => first | (go_simp; done) | (go_simp; rfl)); intro gb192 hg w7 hbox hb; have n0_ := Aside0.mk (blk_below (g := gb191) (o := .cells #[.int .i64 a0_0, .slice A0_1 l0_1.length c0_1] 46 (0, 0)) (by (with_reducible repeat (first | refine blk_drewN ?_ _ | refine blk_drew ?_ | refine blk_alloc ?_ _)); exact BK191.out) hb); have n1_ := Aside0.mk (below_step (by repeat (first | (with_reducible first | exact HB.out | apply below_alloc | apply pw_below_drewN | apply below_drew1 | refine below_set ?_ GE191.out) | exact HB.out)) hb); have n2_ := Aside0.mk (hbox); have n3_ := Aside0.mk ((by rw [hg]; exact (below_size (by repeat (first | (with_reducible first | exact HB.out | apply below_alloc | apply pw_below_drewN | apply below_drew1 | refine below_set ?_ GE191.out) | exact HB.out))) : w.heap.size ≤ gb192)); have n4_ := Aside0.mk ((by rw [hg]; exact (below_size (by repeat (first | (with_reducible first | exact HB.out | apply below_alloc | apply pw_below_drewN | apply below_drew1 | refine below_set ?_ GE191.out) | exact HB.out))) : w.heap.size ≤ gb192)); have n5_ := Aside0.mk ((by rw [hg]; exact Nat.ne_of_lt (blk_lt (g := gb191) (o := .cells #[.int .i64 a0_0, .slice A0_1 l0_1.length c0_1] 46 (0, 0)) (by (with_reducible repeat (first | refine blk_drewN ?_ _ | refine blk_drew ?_ | refine blk_alloc ?_ _)); exact BK191.out)) : gb191 ≠ gb192)); have n6_ := Aside0.mk ((by rw [hg]; exact Nat.ne_of_gt (blk_lt (g := gb191) (o := .cells #[.int .i64 a0_0, .slice A0_1 l0_1.length c0_1] 46 (0, 0)) (by (with_reducible repeat (first | refine blk_drewN ?_ _ | refine blk_drew ?_ | refine blk_alloc ?_ _)); exact BK191.out)) : gb192 ≠ gb191)); clear BK191; clear HB; have BK191 := n0_; have HB := n1_; have BK192 := n2_; have GW192 := n3_; have GE192 := n4_; have NB191_192 := n5_; have NB192_191 := n6_; clear n0_ n1_ n2_ n3_ n4_ n5_ n6_; clear hb hbox hg; have hnb8 := NB191_192.out; have hnc8 := NB192_191.out; have hcz9_0 : w7.cell? ⟨gb191, 0, none⟩ = some (.int .i64 a0_0) := (blk_cell BK191.out 0).trans rfl; have hcz9_1 : w7.cell? ⟨gb191, 1, none⟩ = some (.slice A0_1 l0_1.length c0_1) := (blk_cell BK191.out 1).trans rfl; have hfz9_0 := blk_frozen BK191.out 0; have hfz9_1 := blk_frozen BK191.out 1) | ((with_reducible refine gate_callee (f := 79) rfl ?_); refine goesL_ (some 8) rfl rfl Try.func79 (by kernel_rfl) rfl #[.agg #[.int .i64 a0_0, .slice A0_1 l0_1.length c0_1], .int .i64 a1] rfl (by (try simp only [List.map_toArray, List.map_cons, List.map_nil]); first | done | rfl | (simp only [List.length_drop, List.length_take]; rfl)) ?_; (with_reducible refine (impl_isNumbered.calls k a0_0 _ _ l0_1 a1 true _ ?side1 ?side2 A3.out).mono ?_); (case side1 => repeat (first | exact (Kd.C_below HR0_1.out HB.out) | (with_reducible refine Kd.C_alloc ?_ _) | (with_reducible refine Kd.C_drewN ?_ _) | (with_reducible refine Kd.C_drew ?_))); (case side2 => exact HC0_1.out); rintro e w10 ⟨rfl, hb⟩; refine ⟨_, rfl, ?_⟩; have n0_ := Aside0.mk (blk_below (g := gb191) (o := .cells #[.int .i64 a0_0, .slice A0_1 l0_1.length c0_1] 46 (0, 0)) (by (with_reducible repeat (first | refine blk_drewN ?_ _ | refine blk_drew ?_ | refine blk_alloc ?_ _)); exact BK191.out) hb); have n1_ := Aside0.mk (blk_below (g := gb192) (o := .cells #[.int .i64 0, .slice none 0 0] 46 (0, 0)) (by (with_reducible repeat (first | refine blk_drewN ?_ _ | refine blk_drew ?_ | refine blk_alloc ?_ _)); exact BK192.out) hb); have n2_ := Aside0.mk (below_step (by repeat (first | (with_reducible first | exact HB.out | apply below_alloc | apply pw_below_drewN | apply below_drew1 | refine below_set ?_ GE191.out | refine below_set ?_ GE192.out) | exact HB.out)) hb); clear BK191; clear BK192; clear HB; have BK191 := n0_; have BK192 := n1_; have HB := n2_; clear n0_ n1_ n2_; (try clear hb); (try clear hb2); (try clear hk); (try clear hi); have hcz11_0 : w10.cell? ⟨gb191, 0, none⟩ = some (.int .i64 a0_0) := (blk_cell BK191.out 0).trans rfl; have hcz11_1 : w10.cell? ⟨gb191, 1, none⟩ = some (.slice A0_1 l0_1.length c0_1) := (blk_cell BK191.out 1).trans rfl; have hfz11_0 := blk_frozen BK191.out 0; have hfz11_1 := blk_frozen BK191.out 1) | ((with_reducible refine gate_callee (f := 80) rfl ?_); refine goesL_ (some 13) rfl rfl Try.func80 (by kernel_rfl) rfl #[.agg #[.int .i64 a0_0, .slice A0_1 l0_1.length c0_1], .int .i64 a1] rfl (by (try simp only [List.map_toArray, List.map_cons, List.map_nil]); first | done | rfl | (simp only [List.length_drop, List.length_take]; rfl)) ?_; (with_reducible refine (impl_Cards_dropped.calls k a0_0 _ _ l0_1 a1 t194 t195 _ ?side1 ?side2 A5.out).mono ?_); (case side1 => repeat (first | exact (Kd.C_below HR0_1.out HB.out) | (with_reducible refine Kd.C_alloc ?_ _) | (with_reducible refine Kd.C_drewN ?_ _) | (with_reducible refine Kd.C_drew ?_))); (case side2 => exact HC0_1.out); rintro e w12 ⟨v196, rfl, ho0, hb⟩; refine ⟨_, rfl, ?_⟩; have n0_ := Aside0.mk (Kd.S_lower ho0 (below_size (by repeat (first | (with_reducible first | exact HB.out | apply below_alloc | apply pw_below_drewN | apply below_drew1 | refine below_set ?_ GE191.out | refine below_set ?_ GE192.out) | exact HB.out)))); have n1_ := Aside0.mk (blk_below (g := gb191) (o := .cells #[.int .i64 a0_0, .slice A0_1 l0_1.length c0_1] 46 (0, 0)) (by (with_reducible repeat (first | refine blk_drewN ?_ _ | refine blk_drew ?_ | refine blk_alloc ?_ _)); exact BK191.out) hb); have n2_ := Aside0.mk (blk_below (g := gb192) (o := .cells #[.int .i64 0, .slice none 0 0] 46 (0, 0)) (by (with_reducible repeat (first | refine blk_drewN ?_ _ | refine blk_drew ?_ | refine blk_alloc ?_ _)); exact BK192.out) hb); have n3_ := Aside0.mk (below_step (by repeat (first | (with_reducible first | exact HB.out | apply below_alloc | apply pw_below_drewN | apply below_drew1 | refine below_set ?_ GE191.out | refine below_set ?_ GE192.out) | exact HB.out)) hb); clear BK191; clear BK192; clear HB; have HO197 := n0_; have BK191 := n1_; have BK192 := n2_; have HB := n3_; clear n0_ n1_ n2_ n3_; (try clear hb); (try clear hb2); (try clear hk); (try clear hi); (try clear ho0); have hcz13_0 : w12.cell? ⟨gb192, 0, none⟩ = some (.int .i64 0) := (blk_cell BK192.out 0).trans rfl; have hcz13_1 : w12.cell? ⟨gb192, 1, none⟩ = some (.slice none 0 0) := (blk_cell BK192.out 1).trans rfl; have hfz13_0 := blk_frozen BK192.out 0; have hfz13_1 := blk_frozen BK192.out 1; obtain ⟨Ao14, co14, eo14⟩ := Kd.S_slice HO197.out; subst eo14))
    refine bodyPost_ret (results_ct rfl _ _ gb192 46 #[.int .i64 t194, .slice Ao14 t195.length co14] (0, 0) _ rfl (by (with_reducible repeat (first | refine blk_drewN ?_ _ | refine blk_drew ?_ | refine blk_alloc ?_ _)); refine blk_put (cs := #[.int .i64 t194, .slice none 0 0]) ?_ 1 _ rfl; (with_reducible repeat (first | refine blk_drewN ?_ _ | refine blk_drew ?_ | refine blk_alloc ?_ _)); refine blk_put (cs := #[.int .i64 0, .slice none 0 0]) ?_ 0 _ rfl; (with_reducible repeat (first | refine blk_drewN ?_ _ | refine blk_drew ?_ | refine blk_alloc ?_ _)); exact BK192.out) Try.underlying46 rfl (by kernel_rfl)) rfl ?_
    exact ⟨_, by first | rfl | (simp [errW_none, errW_some] <;> rfl) | (simp [*, errW_none, errW_some] <;> rfl), by (with_reducible repeat (first | apply Kd.S_alloc | apply Kd.S_drewN | apply Kd.S_drew)); exact Kd.S_mono (Kd.S_far (p := ⟨gb192, 1, none⟩) (Kd.S_far (p := ⟨gb192, 0, none⟩) (Kd.S_types HO197.out BK192.out (by decide)) (fun _ hk => hk.2) (.int .i64 t194)) (fun _ hk => hk.2) (.slice Ao14 t195.length co14)) (fun _ hk => trivial), by repeat (first | (with_reducible first | exact HB.out | apply below_alloc | apply pw_below_drewN | apply below_drew1 | refine below_set ?_ GE191.out | refine below_set ?_ GE192.out) | exact HB.out)⟩
  · replace c4 := Bool.eq_false_iff.mpr c4
    subst c4
    have H1 : (some (0, ([] : List (List Int)), false)) = some (r1, r2, r3) := by rw [if_neg (show ¬ (false = true) by decide)] at H; exact H
    clear H
    have H := H1
    clear H1
    simp only [Option.some.injEq, Prod.mk.injEq] at H
    obtain ⟨rfl, rfl, rfl⟩ := H
    go_enter Try.func38, Try.ntmps38
    go_wp2_with (first | ((with_reducible refine gate_dst (N := 2) rfl ?_); refine box_event ?hg (N := 2) ?hd (cs := #[.int .i64 a0_0, .slice A0_1 l0_1.length c0_1]) (t := 46) ?hr ?_; (case hd => rfl); (case hg => rfl); (case hr => first | (go_simp; done) | (go_simp; rfl)); intro gb191 hg w15 hbox hb; have n0_ := Aside0.mk (below_step (by repeat (first | (with_reducible first | exact HB.out | apply below_alloc | apply pw_below_drewN | apply below_drew1) | exact HB.out)) hb); have n1_ := Aside0.mk (hbox); have n2_ := Aside0.mk ((by rw [hg]; exact (below_size (by repeat (first | (with_reducible first | exact HB.out | apply below_alloc | apply pw_below_drewN | apply below_drew1) | exact HB.out))) : w.heap.size ≤ gb191)); have n3_ := Aside0.mk ((by rw [hg]; exact (below_size (by repeat (first | (with_reducible first | exact HB.out | apply below_alloc | apply pw_below_drewN | apply below_drew1) | exact HB.out))) : w.heap.size ≤ gb191)); clear HB; have HB := n0_; have BK191 := n1_; have GW191 := n2_; have GE191 := n3_; clear n0_ n1_ n2_ n3_; clear hb hbox hg) | ((with_reducible refine gate_dst (N := 4) rfl ?_); refine box_event ?hg (N := 4) ?hd (cs := #[.int .i64 0, .slice none 0 0]) (t := 46) ?hr ?_; (case hd => rfl); (case hg => rfl); (case hr => first | (go_simp; done) | (go_simp; rfl)); intro gb192 hg w16 hbox hb; have n0_ := Aside0.mk (blk_below (g := gb191) (o := .cells #[.int .i64 a0_0, .slice A0_1 l0_1.length c0_1] 46 (0, 0)) (by (with_reducible repeat (first | refine blk_drewN ?_ _ | refine blk_drew ?_ | refine blk_alloc ?_ _)); exact BK191.out) hb); have n1_ := Aside0.mk (below_step (by repeat (first | (with_reducible first | exact HB.out | apply below_alloc | apply pw_below_drewN | apply below_drew1 | refine below_set ?_ GE191.out) | exact HB.out)) hb); have n2_ := Aside0.mk (hbox); have n3_ := Aside0.mk ((by rw [hg]; exact (below_size (by repeat (first | (with_reducible first | exact HB.out | apply below_alloc | apply pw_below_drewN | apply below_drew1 | refine below_set ?_ GE191.out) | exact HB.out))) : w.heap.size ≤ gb192)); have n4_ := Aside0.mk ((by rw [hg]; exact (below_size (by repeat (first | (with_reducible first | exact HB.out | apply below_alloc | apply pw_below_drewN | apply below_drew1 | refine below_set ?_ GE191.out) | exact HB.out))) : w.heap.size ≤ gb192)); have n5_ := Aside0.mk ((by rw [hg]; exact Nat.ne_of_lt (blk_lt (g := gb191) (o := .cells #[.int .i64 a0_0, .slice A0_1 l0_1.length c0_1] 46 (0, 0)) (by (with_reducible repeat (first | refine blk_drewN ?_ _ | refine blk_drew ?_ | refine blk_alloc ?_ _)); exact BK191.out)) : gb191 ≠ gb192)); have n6_ := Aside0.mk ((by rw [hg]; exact Nat.ne_of_gt (blk_lt (g := gb191) (o := .cells #[.int .i64 a0_0, .slice A0_1 l0_1.length c0_1] 46 (0, 0)) (by (with_reducible repeat (first | refine blk_drewN ?_ _ | refine blk_drew ?_ | refine blk_alloc ?_ _)); exact BK191.out)) : gb192 ≠ gb191)); clear BK191; clear HB; have BK191 := n0_; have HB := n1_; have BK192 := n2_; have GW192 := n3_; have GE192 := n4_; have NB191_192 := n5_; have NB192_191 := n6_; clear n0_ n1_ n2_ n3_ n4_ n5_ n6_; clear hb hbox hg; have hnb17 := NB191_192.out; have hnc17 := NB192_191.out; have hcz18_0 : w16.cell? ⟨gb191, 0, none⟩ = some (.int .i64 a0_0) := (blk_cell BK191.out 0).trans rfl; have hcz18_1 : w16.cell? ⟨gb191, 1, none⟩ = some (.slice A0_1 l0_1.length c0_1) := (blk_cell BK191.out 1).trans rfl; have hfz18_0 := blk_frozen BK191.out 0; have hfz18_1 := blk_frozen BK191.out 1) | ((with_reducible refine gate_callee (f := 79) rfl ?_); refine goesL_ (some 8) rfl rfl Try.func79 (by kernel_rfl) rfl #[.agg #[.int .i64 a0_0, .slice A0_1 l0_1.length c0_1], .int .i64 a1] rfl (by (try simp only [List.map_toArray, List.map_cons, List.map_nil]); first | done | rfl | (simp only [List.length_drop, List.length_take]; rfl)) ?_; (with_reducible refine (impl_isNumbered.calls k a0_0 _ _ l0_1 a1 false _ ?side1 ?side2 A3.out).mono ?_); (case side1 => repeat (first | exact (Kd.C_below HR0_1.out HB.out) | (with_reducible refine Kd.C_alloc ?_ _) | (with_reducible refine Kd.C_drewN ?_ _) | (with_reducible refine Kd.C_drew ?_))); (case side2 => exact HC0_1.out); rintro e w19 ⟨rfl, hb⟩; refine ⟨_, rfl, ?_⟩; have n0_ := Aside0.mk (blk_below (g := gb191) (o := .cells #[.int .i64 a0_0, .slice A0_1 l0_1.length c0_1] 46 (0, 0)) (by (with_reducible repeat (first | refine blk_drewN ?_ _ | refine blk_drew ?_ | refine blk_alloc ?_ _)); exact BK191.out) hb); have n1_ := Aside0.mk (blk_below (g := gb192) (o := .cells #[.int .i64 0, .slice none 0 0] 46 (0, 0)) (by (with_reducible repeat (first | refine blk_drewN ?_ _ | refine blk_drew ?_ | refine blk_alloc ?_ _)); exact BK192.out) hb); have n2_ := Aside0.mk (below_step (by repeat (first | (with_reducible first | exact HB.out | apply below_alloc | apply pw_below_drewN | apply below_drew1 | refine below_set ?_ GE191.out | refine below_set ?_ GE192.out) | exact HB.out)) hb); clear BK191; clear BK192; clear HB; have BK191 := n0_; have BK192 := n1_; have HB := n2_; clear n0_ n1_ n2_; (try clear hb); (try clear hb2); (try clear hk); (try clear hi); have hcz20_0 : w19.cell? ⟨gb192, 0, none⟩ = some (.int .i64 0) := (blk_cell BK192.out 0).trans rfl; have hcz20_1 : w19.cell? ⟨gb192, 1, none⟩ = some (.slice none 0 0) := (blk_cell BK192.out 1).trans rfl; have hfz20_0 := blk_frozen BK192.out 0; have hfz20_1 := blk_frozen BK192.out 1))
    refine bodyPost_ret (results_ct rfl _ _ gb192 46 #[.int .i64 0, .slice none 0 0] (0, 0) _ rfl (by (with_reducible repeat (first | refine blk_drewN ?_ _ | refine blk_drew ?_ | refine blk_alloc ?_ _)); refine blk_put (cs := #[.int .i64 0, .slice none 0 0]) ?_ 1 _ rfl; (with_reducible repeat (first | refine blk_drewN ?_ _ | refine blk_drew ?_ | refine blk_alloc ?_ _)); refine blk_put (cs := #[.int .i64 0, .slice none 0 0]) ?_ 0 _ rfl; (with_reducible repeat (first | refine blk_drewN ?_ _ | refine blk_drew ?_ | refine blk_alloc ?_ _)); exact BK192.out) Try.underlying46 rfl (by kernel_rfl)) rfl ?_
    exact ⟨_, by first | rfl | (simp [errW_none, errW_some] <;> rfl) | (simp [*, errW_none, errW_some] <;> rfl), by first | exact Kd.S_nil _ _ _ _ _ | exact Kd.N_nil _ _ _ _ _ | exact Kd.V_nil _ _ _ _ _ | exact Kd.Q_nil _ _ _ _ _ | exact Kd.R_nil _ _ _ _ _, by repeat (first | (with_reducible first | exact HB.out | apply below_alloc | apply pw_below_drewN | apply below_drew1 | refine below_set ?_ GE191.out | refine below_set ?_ GE192.out) | exact HB.out)⟩

/-! ### laws_FnExactDropCard: function 6 -/
-- NEEDS loop.example/g01305/laws.szCards ; loop.example/g01305/laws.toCards ; loop.example/g01305/spec.DropCard ; loop.example/g01305/impl.DropCard ; loop.example/g01305/laws.eqCards ; loop.example/g01305/laws.markCards ; loop.example/g01305/laws.heldCards
-- USES lawiv
def laws_FnExactDropCard.f (k : Nat) (n_a : Int) (l_a : List (List Int)) (x_b : Int) : Option Bool :=
  (laws_szCards.f k n_a l_a 1048576).bind fun t => if t < 0 then some true else
  (laws_toCards.f k n_a l_a).bind fun p => (spec_DropCard.f k p.1 p.2 x_b).bind fun w => (impl_DropCard.f k p.1 p.2 x_b).bind fun g =>
  (laws_eqCards.f k g.1 g.2.1 w.1 w.2.1).bind fun e1 => (laws_eqCards.f k p.1 p.2 p.1 p.2).bind fun e2 => (laws_markCards.f k p.1 p.2 1).bind fun mp => (laws_markCards.f k g.1 g.2.1 1).bind fun m => (laws_heldCards.f k g.1 m.2 1).bind fun q =>
  if e1 = true ∧ e2 = true ∧ g.2.2 = w.2.2 ∧ 0 ≤ mp.1 ∧ 0 ≤ q ∧ q = m.1 then some true else none
set_option maxHeartbeats 16000000 in
set_option maxRecDepth 100000 in
theorem laws_FnExactDropCard.calls (k : Nat) (n_a : Int) (A_a : Option Addr) (c_a : Nat) (l_a : List (List Int)) (x_b : Int) (r : Bool) (w : World) (hr_a : Kd.C (Kd.slice 3 (Kd.int .i64)) w A_a l_a.length l_a) (hc_a : l_a.length ≤ c_a) (h : laws_FnExactDropCard.f k n_a l_a x_b = some r) :
    Calls Try.prog 6 #[.agg #[.int .i64 n_a, .slice A_a l_a.length c_a], .int .i64 x_b] w fun e w' => e = .returned (.bool r) ∧ Below w.heap.size w w' := by
  unfold laws_FnExactDropCard.f at h
  have HA_a := Aside0.mk hr_a
  have HC_a := Aside0.mk hc_a
  have HB := Aside0.mk (Below.refl w.heap.size w)
  clear hr_a hc_a
  obtain ⟨t, h0, h⟩ := Option.bind_eq_some_iff.1 h
  have H0 := Aside0.mk h0
  clear h0
  by_cases ht : t < 0
  · rw [if_pos ht] at h
    obtain rfl := Option.some.inj h
    have htd := decide_eq_true ht
    clear h ht
    go_enter Try.func6, Try.ntmps6
    go_wp2_with (go_at_call 29; refine (laws_szCards.calls k n_a A_a c_a l_a 1048576 t _ (by repeat (first | (with_reducible exact (Kd.C_below HA_a.out HB.out)) | (with_reducible refine Kd.C_alloc ?_ _) | (with_reducible refine Kd.C_drewN ?_ _) | (with_reducible refine Kd.C_drew ?_))) HC_a.out H0.out).mono ?_; rintro e w1 ⟨rfl, hb⟩; (first | replace hb := hb.below | skip); have HE_ : Aside0 (Below w.heap.size w w1) := ⟨below_step (by repeat (first | (with_reducible exact Below.refl _ _) | (with_reducible refine below_alloc ?_ _) | (with_reducible refine pw_below_drewN ?_ _) | (with_reducible refine below_drew ?_))) hb⟩; have HB := Aside0.mk (below_step HB.out HE_.out); have HZ_1 := Aside0.mk HE_.out.size; have HX_0 : Aside0 (w1.heap[w.heap.size]? = some (.cells #[.int .i64 n_a, .slice A_a (l_a).length c_a] 44 (0, 0))) := ⟨blk_below (by repeat (first | (with_reducible exact blk_new _ _) | (with_reducible refine blk_alloc ?_ _) | (with_reducible refine blk_drewN ?_ _) | (with_reducible refine blk_drew ?_))) hb⟩; have HXL_0 := Aside0.mk (blk_lt HX_0.out); (try clear hc0_0); (try clear hc0_1); clear hb; have hc0_0 : w1.cell? ⟨w.heap.size, 0, none⟩ = some (.int .i64 n_a) := (blk_cell HX_0.out 0).trans rfl; have hc0_1 : w1.cell? ⟨w.heap.size, 1, none⟩ = some (.slice A_a (l_a).length c_a) := (blk_cell HX_0.out 1).trans rfl; refine Aside0.out ?_)
    refine Aside0.mk ?_
    go_wp2
    go_ret
    exact ⟨rfl, (by repeat (first | (with_reducible exact HB.out) | (with_reducible refine below_alloc ?_ _) | (with_reducible refine pw_below_drewN ?_ _) | (with_reducible refine below_drew ?_)))⟩
  · rw [if_neg ht] at h
    obtain ⟨⟨pn, pl⟩, h1, h⟩ := Option.bind_eq_some_iff.1 h
    obtain ⟨⟨wn, wl, wb⟩, h2, h⟩ := Option.bind_eq_some_iff.1 h
    obtain ⟨⟨gn, gl, gb⟩, h3, h⟩ := Option.bind_eq_some_iff.1 h
    obtain ⟨e1, h4, h⟩ := Option.bind_eq_some_iff.1 h
    obtain ⟨e2, h5, h⟩ := Option.bind_eq_some_iff.1 h
    obtain ⟨⟨mp, xl⟩, h6, h⟩ := Option.bind_eq_some_iff.1 h
    obtain ⟨⟨m, ml⟩, h7, h⟩ := Option.bind_eq_some_iff.1 h
    obtain ⟨q, h8, h⟩ := Option.bind_eq_some_iff.1 h
    by_cases hcd : e1 = true ∧ e2 = true ∧ gb = wb ∧ 0 ≤ mp ∧ 0 ≤ q ∧ q = m
    case neg => rw [if_neg hcd] at h; cases h
    rw [if_pos hcd] at h
    obtain rfl := Option.some.inj h
    obtain ⟨rfl, rfl, rfl, hmp, hq, rfl⟩ := hcd
    have hbb : (gb != gb) = false := by cases gb <;> rfl
    have hqq : (q != q) = false := bne_eq_false_iff_eq.mpr rfl
    have htd := decide_eq_false ht
    have hmpd : decide (mp < 0) = false := decide_eq_false (by omega)
    have hqd : decide (q < 0) = false := decide_eq_false (by omega)
    have H1 := Aside0.mk h1
    have H2 := Aside0.mk h2
    have H3 := Aside0.mk h3
    have H4 := Aside0.mk h4
    have H5 := Aside0.mk h5
    have H6 := Aside0.mk h6
    have H7 := Aside0.mk h7
    have H8 := Aside0.mk h8
    clear h h1 h2 h3 h4 h5 h6 h7 h8 ht hmp hq
    go_enter Try.func6, Try.ntmps6
    go_wp2_with (go_at_call 29; refine (laws_szCards.calls k n_a A_a c_a l_a 1048576 t _ (by repeat (first | (with_reducible exact (Kd.C_below HA_a.out HB.out)) | (with_reducible refine Kd.C_alloc ?_ _) | (with_reducible refine Kd.C_drewN ?_ _) | (with_reducible refine Kd.C_drew ?_))) HC_a.out H0.out).mono ?_; rintro e w1 ⟨rfl, hb⟩; (first | replace hb := hb.below | skip); have HE_ : Aside0 (Below w.heap.size w w1) := ⟨below_step (by repeat (first | (with_reducible exact Below.refl _ _) | (with_reducible refine below_alloc ?_ _) | (with_reducible refine pw_below_drewN ?_ _) | (with_reducible refine below_drew ?_))) hb⟩; have HB := Aside0.mk (below_step HB.out HE_.out); have HZ_1 := Aside0.mk HE_.out.size; have HX_0 : Aside0 (w1.heap[w.heap.size]? = some (.cells #[.int .i64 n_a, .slice A_a (l_a).length c_a] 44 (0, 0))) := ⟨blk_below (by repeat (first | (with_reducible exact blk_new _ _) | (with_reducible refine blk_alloc ?_ _) | (with_reducible refine blk_drewN ?_ _) | (with_reducible refine blk_drew ?_))) hb⟩; have HXL_0 := Aside0.mk (blk_lt HX_0.out); (try clear hc0_0); (try clear hc0_1); clear hb; have hc0_0 : w1.cell? ⟨w.heap.size, 0, none⟩ = some (.int .i64 n_a) := (blk_cell HX_0.out 0).trans rfl; have hc0_1 : w1.cell? ⟨w.heap.size, 1, none⟩ = some (.slice A_a (l_a).length c_a) := (blk_cell HX_0.out 1).trans rfl; refine Aside0.out ?_)
    refine Aside0.mk ?_
    go_wp2_with (go_at_call 31; refine (laws_toCards.calls k n_a A_a c_a l_a pn (pl) _ (by repeat (first | (with_reducible exact (Kd.C_below HA_a.out HB.out)) | (with_reducible refine Kd.C_alloc ?_ _) | (with_reducible refine Kd.C_drewN ?_ _) | (with_reducible refine Kd.C_drew ?_))) HC_a.out H1.out).mono ?_; rintro e w2 ⟨v_, rfl, ho, hb⟩; have HE_ : Aside0 (Below w1.heap.size w1 w2) := ⟨below_step (by repeat (first | (with_reducible exact Below.refl _ _) | (with_reducible refine below_alloc ?_ _) | (with_reducible refine pw_below_drewN ?_ _) | (with_reducible refine below_drew ?_))) hb⟩; obtain ⟨A_p1, c_p1, rfl⟩ := Kd.S_slice ho; have HW_p1 := Aside0.mk (S_iv ho (show Below w1.heap.size w1 _ from (by repeat (first | (with_reducible exact Below.refl _ _) | (with_reducible refine below_alloc ?_ _) | (with_reducible refine pw_below_drewN ?_ _) | (with_reducible refine below_drew ?_)))).size HB.out.size); have HB := Aside0.mk (below_step HB.out HE_.out); have HZ_2 := Aside0.mk HE_.out.size; have HX_0 := Aside0.mk (blk_below HX_0.out HE_.out); (try clear hc0_0); (try clear hc0_1); clear hb ho; have hc0_0 : w2.cell? ⟨w.heap.size, 0, none⟩ = some (.int .i64 n_a) := (blk_cell HX_0.out 0).trans rfl; have hc0_1 : w2.cell? ⟨w.heap.size, 1, none⟩ = some (.slice A_a (l_a).length c_a) := (blk_cell HX_0.out 1).trans rfl; refine Aside0.out ?_)
    refine Aside0.mk ?_
    go_wp2_with (go_at_call 37; refine (spec_DropCard.calls k pn A_p1 c_p1 (pl) x_b wn (wl) gb _ (by repeat (first | (with_reducible exact (Kd.S_reads' HW_p1.out).2.2) | (with_reducible refine Kd.C_alloc ?_ _) | (with_reducible refine Kd.C_drewN ?_ _) | (with_reducible refine Kd.C_drew ?_))) (Kd.S_reads' HW_p1.out).2.1 H2.out).mono ?_; rintro e w3 ⟨v_, rfl, ho, hb⟩; have HE_ : Aside0 (Below w2.heap.size w2 w3) := ⟨below_step (by repeat (first | (with_reducible exact Below.refl _ _) | (with_reducible refine below_alloc ?_ _) | (with_reducible refine pw_below_drewN ?_ _) | (with_reducible refine below_drew ?_))) hb⟩; obtain ⟨A_w, c_w, rfl⟩ := Kd.S_slice ho; have HW_w := Aside0.mk (S_iv ho (show Below w2.heap.size w2 _ from (by repeat (first | (with_reducible exact Below.refl _ _) | (with_reducible refine below_alloc ?_ _) | (with_reducible refine pw_below_drewN ?_ _) | (with_reducible refine below_drew ?_)))).size HB.out.size); have HB := Aside0.mk (below_step HB.out HE_.out); have HZ_3 := Aside0.mk HE_.out.size; have HW_p1 := Aside0.mk (Kd.S_below HW_p1.out HE_.out); have HX_0 := Aside0.mk (blk_below HX_0.out HE_.out); (try clear hc0_0); (try clear hc0_1); clear hb ho; have hc0_0 : w3.cell? ⟨w.heap.size, 0, none⟩ = some (.int .i64 n_a) := (blk_cell HX_0.out 0).trans rfl; have hc0_1 : w3.cell? ⟨w.heap.size, 1, none⟩ = some (.slice A_a (l_a).length c_a) := (blk_cell HX_0.out 1).trans rfl; refine Aside0.out ?_)
    refine Aside0.mk ?_
    have hca0_0 : (w3.alloc (.cells #[.int .i64 wn, .slice A_w (wl).length c_w] 46)).cell? ⟨w.heap.size, 0, none⟩ = some (.int .i64 n_a) := (blk_cell (blk_alloc HX_0.out _) 0).trans rfl
    have hca0_1 : (w3.alloc (.cells #[.int .i64 wn, .slice A_w (wl).length c_w] 46)).cell? ⟨w.heap.size, 1, none⟩ = some (.slice A_a (l_a).length c_a) := (blk_cell (blk_alloc HX_0.out _) 1).trans rfl
    have hcn_0 : (w3.alloc (.cells #[.int .i64 wn, .slice A_w (wl).length c_w] 46)).cell? ⟨w3.heap.size, 0, none⟩ = some (.int .i64 wn) := (blk_cell (blk_new _ _) 0).trans rfl
    have hcn_1 : (w3.alloc (.cells #[.int .i64 wn, .slice A_w (wl).length c_w] 46)).cell? ⟨w3.heap.size, 1, none⟩ = some (.slice A_w (wl).length c_w) := (blk_cell (blk_new _ _) 1).trans rfl
    go_wp2_with (go_at_call 31; refine (laws_toCards.calls k n_a A_a c_a l_a pn (pl) _ (by repeat (first | (with_reducible exact (Kd.C_below HA_a.out HB.out)) | (with_reducible refine Kd.C_alloc ?_ _) | (with_reducible refine Kd.C_drewN ?_ _) | (with_reducible refine Kd.C_drew ?_))) HC_a.out H1.out).mono ?_; rintro e w4 ⟨v_, rfl, ho, hb⟩; have HE_ : Aside0 (Below w3.heap.size w3 w4) := ⟨below_step (by repeat (first | (with_reducible exact Below.refl _ _) | (with_reducible refine below_alloc ?_ _) | (with_reducible refine pw_below_drewN ?_ _) | (with_reducible refine below_drew ?_))) hb⟩; obtain ⟨A_x, c_x, rfl⟩ := Kd.S_slice ho; have HW_x := Aside0.mk (S_iv (b := w3.heap.size + 1) ho (blk_lt (g := w3.heap.size) (o := .cells #[.int .i64 wn, .slice A_w (wl).length c_w] 46 (0, 0)) (by repeat (first | (with_reducible exact blk_new _ _) | (with_reducible refine blk_alloc ?_ _) | (with_reducible refine blk_drewN ?_ _) | (with_reducible refine blk_drew ?_)))) (Nat.le_succ_of_le HB.out.size)); have HB := Aside0.mk (below_step HB.out HE_.out); have HZ_4 := Aside0.mk HE_.out.size; have HW_p1 := Aside0.mk (Kd.S_below HW_p1.out HE_.out); have HW_w := Aside0.mk (Kd.S_below HW_w.out HE_.out); have HX_0 := Aside0.mk (blk_below HX_0.out HE_.out); have HX_1 : Aside0 (w4.heap[w3.heap.size]? = some (.cells #[.int .i64 wn, .slice A_w (wl).length c_w] 46 (0, 0))) := ⟨blk_below (by repeat (first | (with_reducible exact blk_new _ _) | (with_reducible refine blk_alloc ?_ _) | (with_reducible refine blk_drewN ?_ _) | (with_reducible refine blk_drew ?_))) hb⟩; have HXL_1 := Aside0.mk (blk_lt HX_1.out); (try clear hc0_0); (try clear hc0_1); (try clear hc1_0); (try clear hc1_1); clear hca0_0; clear hca0_1; clear hcn_0; clear hcn_1; clear hb ho; have hc0_0 : w4.cell? ⟨w.heap.size, 0, none⟩ = some (.int .i64 n_a) := (blk_cell HX_0.out 0).trans rfl; have hc0_1 : w4.cell? ⟨w.heap.size, 1, none⟩ = some (.slice A_a (l_a).length c_a) := (blk_cell HX_0.out 1).trans rfl; have hc1_0 : w4.cell? ⟨w3.heap.size, 0, none⟩ = some (.int .i64 wn) := (blk_cell HX_1.out 0).trans rfl; have hc1_1 : w4.cell? ⟨w3.heap.size, 1, none⟩ = some (.slice A_w (wl).length c_w) := (blk_cell HX_1.out 1).trans rfl; refine Aside0.out ?_)
    refine Aside0.mk ?_
    have hca0_0 : (w4.alloc (.cells #[.int .i64 pn, .slice A_x (pl).length c_x] 46)).cell? ⟨w.heap.size, 0, none⟩ = some (.int .i64 n_a) := (blk_cell (blk_alloc HX_0.out _) 0).trans rfl
    have hca0_1 : (w4.alloc (.cells #[.int .i64 pn, .slice A_x (pl).length c_x] 46)).cell? ⟨w.heap.size, 1, none⟩ = some (.slice A_a (l_a).length c_a) := (blk_cell (blk_alloc HX_0.out _) 1).trans rfl
    have hca1_0 : (w4.alloc (.cells #[.int .i64 pn, .slice A_x (pl).length c_x] 46)).cell? ⟨w3.heap.size, 0, none⟩ = some (.int .i64 wn) := (blk_cell (blk_alloc HX_1.out _) 0).trans rfl
    have hca1_1 : (w4.alloc (.cells #[.int .i64 pn, .slice A_x (pl).length c_x] 46)).cell? ⟨w3.heap.size, 1, none⟩ = some (.slice A_w (wl).length c_w) := (blk_cell (blk_alloc HX_1.out _) 1).trans rfl
    have hcn_0 : (w4.alloc (.cells #[.int .i64 pn, .slice A_x (pl).length c_x] 46)).cell? ⟨w4.heap.size, 0, none⟩ = some (.int .i64 pn) := (blk_cell (blk_new _ _) 0).trans rfl
    have hcn_1 : (w4.alloc (.cells #[.int .i64 pn, .slice A_x (pl).length c_x] 46)).cell? ⟨w4.heap.size, 1, none⟩ = some (.slice A_x (pl).length c_x) := (blk_cell (blk_new _ _) 1).trans rfl
    go_wp2_with (go_at_call 38; refine (impl_DropCard.calls k pn A_x c_x (pl) x_b gn (gl) gb _ (by repeat (first | (with_reducible exact (Kd.S_reads' HW_x.out).2.2) | (with_reducible refine Kd.C_alloc ?_ _) | (with_reducible refine Kd.C_drewN ?_ _) | (with_reducible refine Kd.C_drew ?_))) (Kd.S_reads' HW_x.out).2.1 H3.out).mono ?_; rintro e w5 ⟨v_, rfl, ho, hb⟩; have HE_ : Aside0 (Below w4.heap.size w4 w5) := ⟨below_step (by repeat (first | (with_reducible exact Below.refl _ _) | (with_reducible refine below_alloc ?_ _) | (with_reducible refine pw_below_drewN ?_ _) | (with_reducible refine below_drew ?_))) hb⟩; obtain ⟨A_g, c_g, rfl⟩ := Kd.S_slice ho; have HW_g := Aside0.mk (S_iv (b := w4.heap.size + 1) ho (blk_lt (g := w4.heap.size) (o := .cells #[.int .i64 pn, .slice A_x (pl).length c_x] 46 (0, 0)) (by repeat (first | (with_reducible exact blk_new _ _) | (with_reducible refine blk_alloc ?_ _) | (with_reducible refine blk_drewN ?_ _) | (with_reducible refine blk_drew ?_)))) (Nat.le_succ_of_le HB.out.size)); have HB := Aside0.mk (below_step HB.out HE_.out); have HZ_5 := Aside0.mk HE_.out.size; have HW_p1 := Aside0.mk (Kd.S_below HW_p1.out HE_.out); have HW_w := Aside0.mk (Kd.S_below HW_w.out HE_.out); have HW_x := Aside0.mk (Kd.S_below HW_x.out HE_.out); have HX_0 := Aside0.mk (blk_below HX_0.out HE_.out); have HX_1 := Aside0.mk (blk_below HX_1.out HE_.out); have HX_2 : Aside0 (w5.heap[w4.heap.size]? = some (.cells #[.int .i64 pn, .slice A_x (pl).length c_x] 46 (0, 0))) := ⟨blk_below (by repeat (first | (with_reducible exact blk_new _ _) | (with_reducible refine blk_alloc ?_ _) | (with_reducible refine blk_drewN ?_ _) | (with_reducible refine blk_drew ?_))) hb⟩; have HXL_2 := Aside0.mk (blk_lt HX_2.out); (try clear hc0_0); (try clear hc0_1); (try clear hc1_0); (try clear hc1_1); (try clear hc2_0); (try clear hc2_1); clear hca0_0; clear hca0_1; clear hca1_0; clear hca1_1; clear hcn_0; clear hcn_1; clear hb ho; have hc0_0 : w5.cell? ⟨w.heap.size, 0, none⟩ = some (.int .i64 n_a) := (blk_cell HX_0.out 0).trans rfl; have hc0_1 : w5.cell? ⟨w.heap.size, 1, none⟩ = some (.slice A_a (l_a).length c_a) := (blk_cell HX_0.out 1).trans rfl; have hc1_0 : w5.cell? ⟨w3.heap.size, 0, none⟩ = some (.int .i64 wn) := (blk_cell HX_1.out 0).trans rfl; have hc1_1 : w5.cell? ⟨w3.heap.size, 1, none⟩ = some (.slice A_w (wl).length c_w) := (blk_cell HX_1.out 1).trans rfl; have hc2_0 : w5.cell? ⟨w4.heap.size, 0, none⟩ = some (.int .i64 pn) := (blk_cell HX_2.out 0).trans rfl; have hc2_1 : w5.cell? ⟨w4.heap.size, 1, none⟩ = some (.slice A_x (pl).length c_x) := (blk_cell HX_2.out 1).trans rfl; refine Aside0.out ?_)
    refine Aside0.mk ?_
    have hca0_0 : (w5.alloc (.cells #[.int .i64 gn, .slice A_g (gl).length c_g] 46)).cell? ⟨w.heap.size, 0, none⟩ = some (.int .i64 n_a) := (blk_cell (blk_alloc HX_0.out _) 0).trans rfl
    have hca0_1 : (w5.alloc (.cells #[.int .i64 gn, .slice A_g (gl).length c_g] 46)).cell? ⟨w.heap.size, 1, none⟩ = some (.slice A_a (l_a).length c_a) := (blk_cell (blk_alloc HX_0.out _) 1).trans rfl
    have hca1_0 : (w5.alloc (.cells #[.int .i64 gn, .slice A_g (gl).length c_g] 46)).cell? ⟨w3.heap.size, 0, none⟩ = some (.int .i64 wn) := (blk_cell (blk_alloc HX_1.out _) 0).trans rfl
    have hca1_1 : (w5.alloc (.cells #[.int .i64 gn, .slice A_g (gl).length c_g] 46)).cell? ⟨w3.heap.size, 1, none⟩ = some (.slice A_w (wl).length c_w) := (blk_cell (blk_alloc HX_1.out _) 1).trans rfl
    have hca2_0 : (w5.alloc (.cells #[.int .i64 gn, .slice A_g (gl).length c_g] 46)).cell? ⟨w4.heap.size, 0, none⟩ = some (.int .i64 pn) := (blk_cell (blk_alloc HX_2.out _) 0).trans rfl
    have hca2_1 : (w5.alloc (.cells #[.int .i64 gn, .slice A_g (gl).length c_g] 46)).cell? ⟨w4.heap.size, 1, none⟩ = some (.slice A_x (pl).length c_x) := (blk_cell (blk_alloc HX_2.out _) 1).trans rfl
    have hcn_0 : (w5.alloc (.cells #[.int .i64 gn, .slice A_g (gl).length c_g] 46)).cell? ⟨w5.heap.size, 0, none⟩ = some (.int .i64 gn) := (blk_cell (blk_new _ _) 0).trans rfl
    have hcn_1 : (w5.alloc (.cells #[.int .i64 gn, .slice A_g (gl).length c_g] 46)).cell? ⟨w5.heap.size, 1, none⟩ = some (.slice A_g (gl).length c_g) := (blk_cell (blk_new _ _) 1).trans rfl
    go_wp2_with (go_at_call 34; refine (laws_eqCards.calls k gn A_g c_g (gl) wn A_w c_w (wl) true _ (by repeat (first | (with_reducible exact (Kd.S_reads' HW_g.out).2.2) | (with_reducible refine Kd.C_alloc ?_ _) | (with_reducible refine Kd.C_drewN ?_ _) | (with_reducible refine Kd.C_drew ?_))) (Kd.S_reads' HW_g.out).2.1 (by repeat (first | (with_reducible exact (Kd.S_reads' HW_w.out).2.2) | (with_reducible refine Kd.C_alloc ?_ _) | (with_reducible refine Kd.C_drewN ?_ _) | (with_reducible refine Kd.C_drew ?_))) (Kd.S_reads' HW_w.out).2.1 H4.out).mono ?_; rintro e w6 ⟨rfl, hb⟩; (first | replace hb := hb.below | skip); have HE_ : Aside0 (Below w5.heap.size w5 w6) := ⟨below_step (by repeat (first | (with_reducible exact Below.refl _ _) | (with_reducible refine below_alloc ?_ _) | (with_reducible refine pw_below_drewN ?_ _) | (with_reducible refine below_drew ?_))) hb⟩; have HB := Aside0.mk (below_step HB.out HE_.out); have HZ_6 := Aside0.mk HE_.out.size; have HW_p1 := Aside0.mk (Kd.S_below HW_p1.out HE_.out); have HW_w := Aside0.mk (Kd.S_below HW_w.out HE_.out); have HW_x := Aside0.mk (Kd.S_below HW_x.out HE_.out); have HW_g := Aside0.mk (Kd.S_below HW_g.out HE_.out); have HX_0 := Aside0.mk (blk_below HX_0.out HE_.out); have HX_1 := Aside0.mk (blk_below HX_1.out HE_.out); have HX_2 := Aside0.mk (blk_below HX_2.out HE_.out); have HX_3 : Aside0 (w6.heap[w5.heap.size]? = some (.cells #[.int .i64 gn, .slice A_g (gl).length c_g] 46 (0, 0))) := ⟨blk_below (by repeat (first | (with_reducible exact blk_new _ _) | (with_reducible refine blk_alloc ?_ _) | (with_reducible refine blk_drewN ?_ _) | (with_reducible refine blk_drew ?_))) hb⟩; have HXL_3 := Aside0.mk (blk_lt HX_3.out); (try clear hc0_0); (try clear hc0_1); (try clear hc1_0); (try clear hc1_1); (try clear hc2_0); (try clear hc2_1); (try clear hc3_0); (try clear hc3_1); clear hca0_0; clear hca0_1; clear hca1_0; clear hca1_1; clear hca2_0; clear hca2_1; clear hcn_0; clear hcn_1; clear hb; have hc0_0 : w6.cell? ⟨w.heap.size, 0, none⟩ = some (.int .i64 n_a) := (blk_cell HX_0.out 0).trans rfl; have hc0_1 : w6.cell? ⟨w.heap.size, 1, none⟩ = some (.slice A_a (l_a).length c_a) := (blk_cell HX_0.out 1).trans rfl; have hc1_0 : w6.cell? ⟨w3.heap.size, 0, none⟩ = some (.int .i64 wn) := (blk_cell HX_1.out 0).trans rfl; have hc1_1 : w6.cell? ⟨w3.heap.size, 1, none⟩ = some (.slice A_w (wl).length c_w) := (blk_cell HX_1.out 1).trans rfl; have hc2_0 : w6.cell? ⟨w4.heap.size, 0, none⟩ = some (.int .i64 pn) := (blk_cell HX_2.out 0).trans rfl; have hc2_1 : w6.cell? ⟨w4.heap.size, 1, none⟩ = some (.slice A_x (pl).length c_x) := (blk_cell HX_2.out 1).trans rfl; have hc3_0 : w6.cell? ⟨w5.heap.size, 0, none⟩ = some (.int .i64 gn) := (blk_cell HX_3.out 0).trans rfl; have hc3_1 : w6.cell? ⟨w5.heap.size, 1, none⟩ = some (.slice A_g (gl).length c_g) := (blk_cell HX_3.out 1).trans rfl; refine Aside0.out ?_)
    refine Aside0.mk ?_
    go_wp2_with fail
    go_region_held_law (fun w' => w'.cell? ⟨w.heap.size, 0, none⟩ = some (.int .i64 n_a) ∧ w'.cell? ⟨w.heap.size, 1, none⟩ = some (.slice A_a (l_a).length c_a) ∧ w'.cell? ⟨w3.heap.size, 0, none⟩ = some (.int .i64 wn) ∧ w'.cell? ⟨w3.heap.size, 1, none⟩ = some (.slice A_w (wl).length c_w) ∧ w'.cell? ⟨w4.heap.size, 0, none⟩ = some (.int .i64 pn) ∧ w'.cell? ⟨w4.heap.size, 1, none⟩ = some (.slice A_x (pl).length c_x) ∧ w'.cell? ⟨w5.heap.size, 0, none⟩ = some (.int .i64 gn) ∧ w'.cell? ⟨w5.heap.size, 1, none⟩ = some (.slice A_g (gl).length c_g))
      (first | exact ⟨hc0_0, hc0_1, hc1_0, hc1_1, hc2_0, hc2_1, hc3_0, hc3_1⟩ | go_keep)
      (first | (go_at_call 31; refine (laws_toCards.calls k n_a A_a c_a l_a pn (pl) _ (by repeat (first | (with_reducible exact (Kd.C_below HA_a.out HB.out)) | (with_reducible refine Kd.C_alloc ?_ _) | (with_reducible refine Kd.C_drewN ?_ _) | (with_reducible refine Kd.C_drew ?_))) HC_a.out H1.out).mono ?_; rintro e w7 ⟨v_, rfl, ho, hb⟩; have HE_ : Aside0 (Below w6.heap.size w6 w7) := ⟨below_step (by repeat (first | (with_reducible exact Below.refl _ _) | (with_reducible refine below_alloc ?_ _) | (with_reducible refine pw_below_drewN ?_ _) | (with_reducible refine below_drew ?_))) hb⟩; obtain ⟨A_p2, c_p2, rfl⟩ := Kd.S_slice ho; have HW_p2 := Aside0.mk (S_iv ho (show Below w6.heap.size w6 _ from (by repeat (first | (with_reducible exact Below.refl _ _) | (with_reducible refine below_alloc ?_ _) | (with_reducible refine pw_below_drewN ?_ _) | (with_reducible refine below_drew ?_)))).size HB.out.size); have HB := Aside0.mk (below_step HB.out HE_.out); have HZ_7 := Aside0.mk HE_.out.size; have HW_p1 := Aside0.mk (Kd.S_below HW_p1.out HE_.out); have HW_w := Aside0.mk (Kd.S_below HW_w.out HE_.out); have HW_x := Aside0.mk (Kd.S_below HW_x.out HE_.out); have HW_g := Aside0.mk (Kd.S_below HW_g.out HE_.out); have HX_0 := Aside0.mk (blk_below HX_0.out HE_.out); have HX_1 := Aside0.mk (blk_below HX_1.out HE_.out); have HX_2 := Aside0.mk (blk_below HX_2.out HE_.out); have HX_3 := Aside0.mk (blk_below HX_3.out HE_.out); (try clear hc0_0); (try clear hc0_1); (try clear hc1_0); (try clear hc1_1); (try clear hc2_0); (try clear hc2_1); (try clear hc3_0); (try clear hc3_1); clear hb ho; have hc0_0 : w7.cell? ⟨w.heap.size, 0, none⟩ = some (.int .i64 n_a) := (blk_cell HX_0.out 0).trans rfl; have hc0_1 : w7.cell? ⟨w.heap.size, 1, none⟩ = some (.slice A_a (l_a).length c_a) := (blk_cell HX_0.out 1).trans rfl; have hc1_0 : w7.cell? ⟨w3.heap.size, 0, none⟩ = some (.int .i64 wn) := (blk_cell HX_1.out 0).trans rfl; have hc1_1 : w7.cell? ⟨w3.heap.size, 1, none⟩ = some (.slice A_w (wl).length c_w) := (blk_cell HX_1.out 1).trans rfl; have hc2_0 : w7.cell? ⟨w4.heap.size, 0, none⟩ = some (.int .i64 pn) := (blk_cell HX_2.out 0).trans rfl; have hc2_1 : w7.cell? ⟨w4.heap.size, 1, none⟩ = some (.slice A_x (pl).length c_x) := (blk_cell HX_2.out 1).trans rfl; have hc3_0 : w7.cell? ⟨w5.heap.size, 0, none⟩ = some (.int .i64 gn) := (blk_cell HX_3.out 0).trans rfl; have hc3_1 : w7.cell? ⟨w5.heap.size, 1, none⟩ = some (.slice A_g (gl).length c_g) := (blk_cell HX_3.out 1).trans rfl) | (go_at_call 34; refine (laws_eqCards.calls k pn A_x c_x (pl) pn A_p2 c_p2 (pl) true _ (by repeat (first | (with_reducible exact (Kd.S_reads' HW_x.out).2.2) | (with_reducible refine Kd.C_alloc ?_ _) | (with_reducible refine Kd.C_drewN ?_ _) | (with_reducible refine Kd.C_drew ?_))) (Kd.S_reads' HW_x.out).2.1 (by repeat (first | (with_reducible exact (Kd.S_reads' HW_p2.out).2.2) | (with_reducible refine Kd.C_alloc ?_ _) | (with_reducible refine Kd.C_drewN ?_ _) | (with_reducible refine Kd.C_drew ?_))) (Kd.S_reads' HW_p2.out).2.1 H5.out).mono ?_; rintro e w8 ⟨rfl, hb⟩; (first | replace hb := hb.below | skip); have HE_ : Aside0 (Below w7.heap.size w7 w8) := ⟨below_step (by repeat (first | (with_reducible exact Below.refl _ _) | (with_reducible refine below_alloc ?_ _) | (with_reducible refine pw_below_drewN ?_ _) | (with_reducible refine below_drew ?_))) hb⟩; have HB := Aside0.mk (below_step HB.out HE_.out); have HZ_8 := Aside0.mk HE_.out.size; have HW_p1 := Aside0.mk (Kd.S_below HW_p1.out HE_.out); have HW_w := Aside0.mk (Kd.S_below HW_w.out HE_.out); have HW_x := Aside0.mk (Kd.S_below HW_x.out HE_.out); have HW_g := Aside0.mk (Kd.S_below HW_g.out HE_.out); have HW_p2 := Aside0.mk (Kd.S_below HW_p2.out HE_.out); have HX_0 := Aside0.mk (blk_below HX_0.out HE_.out); have HX_1 := Aside0.mk (blk_below HX_1.out HE_.out); have HX_2 := Aside0.mk (blk_below HX_2.out HE_.out); have HX_3 := Aside0.mk (blk_below HX_3.out HE_.out); (try clear hc0_0); (try clear hc0_1); (try clear hc1_0); (try clear hc1_1); (try clear hc2_0); (try clear hc2_1); (try clear hc3_0); (try clear hc3_1); clear hb; have hc0_0 : w8.cell? ⟨w.heap.size, 0, none⟩ = some (.int .i64 n_a) := (blk_cell HX_0.out 0).trans rfl; have hc0_1 : w8.cell? ⟨w.heap.size, 1, none⟩ = some (.slice A_a (l_a).length c_a) := (blk_cell HX_0.out 1).trans rfl; have hc1_0 : w8.cell? ⟨w3.heap.size, 0, none⟩ = some (.int .i64 wn) := (blk_cell HX_1.out 0).trans rfl; have hc1_1 : w8.cell? ⟨w3.heap.size, 1, none⟩ = some (.slice A_w (wl).length c_w) := (blk_cell HX_1.out 1).trans rfl; have hc2_0 : w8.cell? ⟨w4.heap.size, 0, none⟩ = some (.int .i64 pn) := (blk_cell HX_2.out 0).trans rfl; have hc2_1 : w8.cell? ⟨w4.heap.size, 1, none⟩ = some (.slice A_x (pl).length c_x) := (blk_cell HX_2.out 1).trans rfl; have hc3_0 : w8.cell? ⟨w5.heap.size, 0, none⟩ = some (.int .i64 gn) := (blk_cell HX_3.out 0).trans rfl; have hc3_1 : w8.cell? ⟨w5.heap.size, 1, none⟩ = some (.slice A_g (gl).length c_g) := (blk_cell HX_3.out 1).trans rfl))
    go_wp2_with (go_at_call 35; refine (laws_markCards.calls k pn (IV (w3.heap.size + 1) w4.heap.size) (.slice A_x (pl).length c_x) (pl) 1 mp (xl) w _ (by repeat (first | (with_reducible exact HB.out) | (with_reducible refine below_alloc ?_ _) | (with_reducible refine pw_below_drewN ?_ _) | (with_reducible refine below_drew ?_))) (by repeat (first | (with_reducible exact HW_x.out) | (with_reducible refine Kd.S_alloc ?_ _) | (with_reducible refine Kd.S_drewN ?_ _) | (with_reducible refine Kd.S_drew ?_))) H6.out).mono ?_; rintro e w9 ⟨rfl, ho, hb, hk⟩; have HE_ := Aside0.mk (show w8.heap.size ≤ w9.heap.size from Nat.le_trans (show Below w8.heap.size w8 _ from (by repeat (first | (with_reducible exact Below.refl _ _) | (with_reducible refine below_alloc ?_ _) | (with_reducible refine pw_below_drewN ?_ _) | (with_reducible refine below_drew ?_)))).size hk.1); have HW_p1 := Aside0.mk (S_ivk (by repeat (first | (with_reducible exact HW_p1.out) | (with_reducible refine Kd.S_alloc ?_ _) | (with_reducible refine Kd.S_drewN ?_ _) | (with_reducible refine Kd.S_drew ?_))) hk (by have := HZ_1.out; have := HZ_2.out; have := HZ_3.out; have := HZ_4.out; have := HZ_5.out; have := HZ_6.out; have := HZ_7.out; have := HZ_8.out; have := HXL_0.out; have := HXL_1.out; have := HXL_2.out; have := HXL_3.out; omega)); have HW_w := Aside0.mk (S_ivk (by repeat (first | (with_reducible exact HW_w.out) | (with_reducible refine Kd.S_alloc ?_ _) | (with_reducible refine Kd.S_drewN ?_ _) | (with_reducible refine Kd.S_drew ?_))) hk (by have := HZ_1.out; have := HZ_2.out; have := HZ_3.out; have := HZ_4.out; have := HZ_5.out; have := HZ_6.out; have := HZ_7.out; have := HZ_8.out; have := HXL_0.out; have := HXL_1.out; have := HXL_2.out; have := HXL_3.out; omega)); have HW_g := Aside0.mk (S_ivk (by repeat (first | (with_reducible exact HW_g.out) | (with_reducible refine Kd.S_alloc ?_ _) | (with_reducible refine Kd.S_drewN ?_ _) | (with_reducible refine Kd.S_drew ?_))) hk (by have := HZ_1.out; have := HZ_2.out; have := HZ_3.out; have := HZ_4.out; have := HZ_5.out; have := HZ_6.out; have := HZ_7.out; have := HZ_8.out; have := HXL_0.out; have := HXL_1.out; have := HXL_2.out; have := HXL_3.out; omega)); have HW_p2 := Aside0.mk (S_ivk (by repeat (first | (with_reducible exact HW_p2.out) | (with_reducible refine Kd.S_alloc ?_ _) | (with_reducible refine Kd.S_drewN ?_ _) | (with_reducible refine Kd.S_drew ?_))) hk (by have := HZ_1.out; have := HZ_2.out; have := HZ_3.out; have := HZ_4.out; have := HZ_5.out; have := HZ_6.out; have := HZ_7.out; have := HZ_8.out; have := HXL_0.out; have := HXL_1.out; have := HXL_2.out; have := HXL_3.out; omega)); have HX_0 := Aside0.mk (X_ivk (by repeat (first | (with_reducible exact HX_0.out) | (with_reducible refine blk_alloc ?_ _) | (with_reducible refine blk_drewN ?_ _) | (with_reducible refine blk_drew ?_))) hk (by have := HZ_1.out; have := HZ_2.out; have := HZ_3.out; have := HZ_4.out; have := HZ_5.out; have := HZ_6.out; have := HZ_7.out; have := HZ_8.out; have := HXL_0.out; have := HXL_1.out; have := HXL_2.out; have := HXL_3.out; have := HXL_0.out; omega)); have HX_1 := Aside0.mk (X_ivk (by repeat (first | (with_reducible exact HX_1.out) | (with_reducible refine blk_alloc ?_ _) | (with_reducible refine blk_drewN ?_ _) | (with_reducible refine blk_drew ?_))) hk (by have := HZ_1.out; have := HZ_2.out; have := HZ_3.out; have := HZ_4.out; have := HZ_5.out; have := HZ_6.out; have := HZ_7.out; have := HZ_8.out; have := HXL_0.out; have := HXL_1.out; have := HXL_2.out; have := HXL_3.out; have := HXL_1.out; omega)); have HX_2 := Aside0.mk (X_ivk (by repeat (first | (with_reducible exact HX_2.out) | (with_reducible refine blk_alloc ?_ _) | (with_reducible refine blk_drewN ?_ _) | (with_reducible refine blk_drew ?_))) hk (by have := HZ_1.out; have := HZ_2.out; have := HZ_3.out; have := HZ_4.out; have := HZ_5.out; have := HZ_6.out; have := HZ_7.out; have := HZ_8.out; have := HXL_0.out; have := HXL_1.out; have := HXL_2.out; have := HXL_3.out; have := HXL_2.out; omega)); have HX_3 := Aside0.mk (X_ivk (by repeat (first | (with_reducible exact HX_3.out) | (with_reducible refine blk_alloc ?_ _) | (with_reducible refine blk_drewN ?_ _) | (with_reducible refine blk_drew ?_))) hk (by have := HZ_1.out; have := HZ_2.out; have := HZ_3.out; have := HZ_4.out; have := HZ_5.out; have := HZ_6.out; have := HZ_7.out; have := HZ_8.out; have := HXL_0.out; have := HXL_1.out; have := HXL_2.out; have := HXL_3.out; have := HXL_3.out; omega)); have HB := Aside0.mk hb; have HZ_9 := Aside0.mk HE_.out; (try clear hc0_0); (try clear hc0_1); (try clear hc1_0); (try clear hc1_1); (try clear hc2_0); (try clear hc2_1); (try clear hc3_0); (try clear hc3_1); clear hb ho hk; have hc0_0 : w9.cell? ⟨w.heap.size, 0, none⟩ = some (.int .i64 n_a) := (blk_cell HX_0.out 0).trans rfl; have hc0_1 : w9.cell? ⟨w.heap.size, 1, none⟩ = some (.slice A_a (l_a).length c_a) := (blk_cell HX_0.out 1).trans rfl; have hc1_0 : w9.cell? ⟨w3.heap.size, 0, none⟩ = some (.int .i64 wn) := (blk_cell HX_1.out 0).trans rfl; have hc1_1 : w9.cell? ⟨w3.heap.size, 1, none⟩ = some (.slice A_w (wl).length c_w) := (blk_cell HX_1.out 1).trans rfl; have hc2_0 : w9.cell? ⟨w4.heap.size, 0, none⟩ = some (.int .i64 pn) := (blk_cell HX_2.out 0).trans rfl; have hc2_1 : w9.cell? ⟨w4.heap.size, 1, none⟩ = some (.slice A_x (pl).length c_x) := (blk_cell HX_2.out 1).trans rfl; have hc3_0 : w9.cell? ⟨w5.heap.size, 0, none⟩ = some (.int .i64 gn) := (blk_cell HX_3.out 0).trans rfl; have hc3_1 : w9.cell? ⟨w5.heap.size, 1, none⟩ = some (.slice A_g (gl).length c_g) := (blk_cell HX_3.out 1).trans rfl; refine Aside0.out ?_)
    refine Aside0.mk ?_
    go_wp2_with ((try (refine gate_guard (by rfl) ?_; dsimp only)); go_at_call 34; refine (laws_eqCards.calls k gn A_g c_g (gl) wn A_w c_w (wl) true _ (by repeat (first | (with_reducible exact (Kd.S_reads' HW_g.out).2.2) | (with_reducible refine Kd.C_alloc ?_ _) | (with_reducible refine Kd.C_drewN ?_ _) | (with_reducible refine Kd.C_drew ?_))) (Kd.S_reads' HW_g.out).2.1 (by repeat (first | (with_reducible exact (Kd.S_reads' HW_w.out).2.2) | (with_reducible refine Kd.C_alloc ?_ _) | (with_reducible refine Kd.C_drewN ?_ _) | (with_reducible refine Kd.C_drew ?_))) (Kd.S_reads' HW_w.out).2.1 H4.out).mono ?_; rintro e w10 ⟨rfl, hb⟩; (first | replace hb := hb.below | skip); have HE_ : Aside0 (Below w9.heap.size w9 w10) := ⟨below_step (by repeat (first | (with_reducible exact Below.refl _ _) | (with_reducible refine below_alloc ?_ _) | (with_reducible refine pw_below_drewN ?_ _) | (with_reducible refine below_drew ?_))) hb⟩; have HB := Aside0.mk (below_step HB.out HE_.out); have HZ_10 := Aside0.mk HE_.out.size; have HW_p1 := Aside0.mk (Kd.S_below HW_p1.out HE_.out); have HW_w := Aside0.mk (Kd.S_below HW_w.out HE_.out); have HW_g := Aside0.mk (Kd.S_below HW_g.out HE_.out); have HW_p2 := Aside0.mk (Kd.S_below HW_p2.out HE_.out); have HX_0 := Aside0.mk (blk_below HX_0.out HE_.out); have HX_1 := Aside0.mk (blk_below HX_1.out HE_.out); have HX_2 := Aside0.mk (blk_below HX_2.out HE_.out); have HX_3 := Aside0.mk (blk_below HX_3.out HE_.out); (try clear hc0_0); (try clear hc0_1); (try clear hc1_0); (try clear hc1_1); (try clear hc2_0); (try clear hc2_1); (try clear hc3_0); (try clear hc3_1); clear hb; have hc0_0 : w10.cell? ⟨w.heap.size, 0, none⟩ = some (.int .i64 n_a) := (blk_cell HX_0.out 0).trans rfl; have hc0_1 : w10.cell? ⟨w.heap.size, 1, none⟩ = some (.slice A_a (l_a).length c_a) := (blk_cell HX_0.out 1).trans rfl; have hc1_0 : w10.cell? ⟨w3.heap.size, 0, none⟩ = some (.int .i64 wn) := (blk_cell HX_1.out 0).trans rfl; have hc1_1 : w10.cell? ⟨w3.heap.size, 1, none⟩ = some (.slice A_w (wl).length c_w) := (blk_cell HX_1.out 1).trans rfl; have hc2_0 : w10.cell? ⟨w4.heap.size, 0, none⟩ = some (.int .i64 pn) := (blk_cell HX_2.out 0).trans rfl; have hc2_1 : w10.cell? ⟨w4.heap.size, 1, none⟩ = some (.slice A_x (pl).length c_x) := (blk_cell HX_2.out 1).trans rfl; have hc3_0 : w10.cell? ⟨w5.heap.size, 0, none⟩ = some (.int .i64 gn) := (blk_cell HX_3.out 0).trans rfl; have hc3_1 : w10.cell? ⟨w5.heap.size, 1, none⟩ = some (.slice A_g (gl).length c_g) := (blk_cell HX_3.out 1).trans rfl; refine Aside0.out ?_)
    refine Aside0.mk ?_
    go_wp2_with (go_at_call 35; refine (laws_markCards.calls k gn (IV (w4.heap.size + 1) w5.heap.size) (.slice A_g (gl).length c_g) (gl) 1 q (ml) w _ (by repeat (first | (with_reducible exact HB.out) | (with_reducible refine below_alloc ?_ _) | (with_reducible refine pw_below_drewN ?_ _) | (with_reducible refine below_drew ?_))) (by repeat (first | (with_reducible exact HW_g.out) | (with_reducible refine Kd.S_alloc ?_ _) | (with_reducible refine Kd.S_drewN ?_ _) | (with_reducible refine Kd.S_drew ?_))) H7.out).mono ?_; rintro e w11 ⟨rfl, ho, hb, hk⟩; have HE_ := Aside0.mk (show w10.heap.size ≤ w11.heap.size from Nat.le_trans (show Below w10.heap.size w10 _ from (by repeat (first | (with_reducible exact Below.refl _ _) | (with_reducible refine below_alloc ?_ _) | (with_reducible refine pw_below_drewN ?_ _) | (with_reducible refine below_drew ?_)))).size hk.1); have HW_g := Aside0.mk (S_ivm ho (Nat.le_trans (show (w4.heap.size + 1) ≤ w10.heap.size by have := HZ_1.out; have := HZ_2.out; have := HZ_3.out; have := HZ_4.out; have := HZ_5.out; have := HZ_6.out; have := HZ_7.out; have := HZ_8.out; have := HZ_9.out; have := HZ_10.out; have := HXL_0.out; have := HXL_1.out; have := HXL_2.out; have := HXL_3.out; omega) (show Below w10.heap.size w10 _ from (by repeat (first | (with_reducible exact Below.refl _ _) | (with_reducible refine below_alloc ?_ _) | (with_reducible refine pw_below_drewN ?_ _) | (with_reducible refine below_drew ?_)))).size)); have HW_p1 := Aside0.mk (S_ivk (by repeat (first | (with_reducible exact HW_p1.out) | (with_reducible refine Kd.S_alloc ?_ _) | (with_reducible refine Kd.S_drewN ?_ _) | (with_reducible refine Kd.S_drew ?_))) hk (by have := HZ_1.out; have := HZ_2.out; have := HZ_3.out; have := HZ_4.out; have := HZ_5.out; have := HZ_6.out; have := HZ_7.out; have := HZ_8.out; have := HZ_9.out; have := HZ_10.out; have := HXL_0.out; have := HXL_1.out; have := HXL_2.out; have := HXL_3.out; omega)); have HW_w := Aside0.mk (S_ivk (by repeat (first | (with_reducible exact HW_w.out) | (with_reducible refine Kd.S_alloc ?_ _) | (with_reducible refine Kd.S_drewN ?_ _) | (with_reducible refine Kd.S_drew ?_))) hk (by have := HZ_1.out; have := HZ_2.out; have := HZ_3.out; have := HZ_4.out; have := HZ_5.out; have := HZ_6.out; have := HZ_7.out; have := HZ_8.out; have := HZ_9.out; have := HZ_10.out; have := HXL_0.out; have := HXL_1.out; have := HXL_2.out; have := HXL_3.out; omega)); have HW_p2 := Aside0.mk (S_ivk (by repeat (first | (with_reducible exact HW_p2.out) | (with_reducible refine Kd.S_alloc ?_ _) | (with_reducible refine Kd.S_drewN ?_ _) | (with_reducible refine Kd.S_drew ?_))) hk (by have := HZ_1.out; have := HZ_2.out; have := HZ_3.out; have := HZ_4.out; have := HZ_5.out; have := HZ_6.out; have := HZ_7.out; have := HZ_8.out; have := HZ_9.out; have := HZ_10.out; have := HXL_0.out; have := HXL_1.out; have := HXL_2.out; have := HXL_3.out; omega)); have HX_0 := Aside0.mk (X_ivk (by repeat (first | (with_reducible exact HX_0.out) | (with_reducible refine blk_alloc ?_ _) | (with_reducible refine blk_drewN ?_ _) | (with_reducible refine blk_drew ?_))) hk (by have := HZ_1.out; have := HZ_2.out; have := HZ_3.out; have := HZ_4.out; have := HZ_5.out; have := HZ_6.out; have := HZ_7.out; have := HZ_8.out; have := HZ_9.out; have := HZ_10.out; have := HXL_0.out; have := HXL_1.out; have := HXL_2.out; have := HXL_3.out; have := HXL_0.out; omega)); have HX_1 := Aside0.mk (X_ivk (by repeat (first | (with_reducible exact HX_1.out) | (with_reducible refine blk_alloc ?_ _) | (with_reducible refine blk_drewN ?_ _) | (with_reducible refine blk_drew ?_))) hk (by have := HZ_1.out; have := HZ_2.out; have := HZ_3.out; have := HZ_4.out; have := HZ_5.out; have := HZ_6.out; have := HZ_7.out; have := HZ_8.out; have := HZ_9.out; have := HZ_10.out; have := HXL_0.out; have := HXL_1.out; have := HXL_2.out; have := HXL_3.out; have := HXL_1.out; omega)); have HX_2 := Aside0.mk (X_ivk (by repeat (first | (with_reducible exact HX_2.out) | (with_reducible refine blk_alloc ?_ _) | (with_reducible refine blk_drewN ?_ _) | (with_reducible refine blk_drew ?_))) hk (by have := HZ_1.out; have := HZ_2.out; have := HZ_3.out; have := HZ_4.out; have := HZ_5.out; have := HZ_6.out; have := HZ_7.out; have := HZ_8.out; have := HZ_9.out; have := HZ_10.out; have := HXL_0.out; have := HXL_1.out; have := HXL_2.out; have := HXL_3.out; have := HXL_2.out; omega)); have HX_3 := Aside0.mk (X_ivk (by repeat (first | (with_reducible exact HX_3.out) | (with_reducible refine blk_alloc ?_ _) | (with_reducible refine blk_drewN ?_ _) | (with_reducible refine blk_drew ?_))) hk (by have := HZ_1.out; have := HZ_2.out; have := HZ_3.out; have := HZ_4.out; have := HZ_5.out; have := HZ_6.out; have := HZ_7.out; have := HZ_8.out; have := HZ_9.out; have := HZ_10.out; have := HXL_0.out; have := HXL_1.out; have := HXL_2.out; have := HXL_3.out; have := HXL_3.out; omega)); have HB := Aside0.mk hb; have HZ_11 := Aside0.mk HE_.out; (try clear hc0_0); (try clear hc0_1); (try clear hc1_0); (try clear hc1_1); (try clear hc2_0); (try clear hc2_1); (try clear hc3_0); (try clear hc3_1); clear hb ho hk; have hlen_g := (Kd.S_reads' HW_g.out).1; rw [hlen_g] at HW_g; rw [hlen_g] at HX_3; rw [hlen_g]; clear hlen_g; have hc0_0 : w11.cell? ⟨w.heap.size, 0, none⟩ = some (.int .i64 n_a) := (blk_cell HX_0.out 0).trans rfl; have hc0_1 : w11.cell? ⟨w.heap.size, 1, none⟩ = some (.slice A_a (l_a).length c_a) := (blk_cell HX_0.out 1).trans rfl; have hc1_0 : w11.cell? ⟨w3.heap.size, 0, none⟩ = some (.int .i64 wn) := (blk_cell HX_1.out 0).trans rfl; have hc1_1 : w11.cell? ⟨w3.heap.size, 1, none⟩ = some (.slice A_w (wl).length c_w) := (blk_cell HX_1.out 1).trans rfl; have hc2_0 : w11.cell? ⟨w4.heap.size, 0, none⟩ = some (.int .i64 pn) := (blk_cell HX_2.out 0).trans rfl; have hc2_1 : w11.cell? ⟨w4.heap.size, 1, none⟩ = some (.slice A_x (pl).length c_x) := (blk_cell HX_2.out 1).trans rfl; have hc3_0 : w11.cell? ⟨w5.heap.size, 0, none⟩ = some (.int .i64 gn) := (blk_cell HX_3.out 0).trans rfl; have hc3_1 : w11.cell? ⟨w5.heap.size, 1, none⟩ = some (.slice A_g (ml).length c_g) := (blk_cell HX_3.out 1).trans rfl; refine Aside0.out ?_)
    refine Aside0.mk ?_
    go_wp2_with (go_at_call 36; refine (laws_heldCards.calls k gn A_g c_g (ml) 1 q _ (by repeat (first | (with_reducible exact (Kd.S_reads' HW_g.out).2.2) | (with_reducible refine Kd.C_alloc ?_ _) | (with_reducible refine Kd.C_drewN ?_ _) | (with_reducible refine Kd.C_drew ?_))) (Kd.S_reads' HW_g.out).2.1 H8.out).mono ?_; rintro e w12 ⟨rfl, hb⟩; (first | replace hb := hb.below | skip); have HE_ : Aside0 (Below w11.heap.size w11 w12) := ⟨below_step (by repeat (first | (with_reducible exact Below.refl _ _) | (with_reducible refine below_alloc ?_ _) | (with_reducible refine pw_below_drewN ?_ _) | (with_reducible refine below_drew ?_))) hb⟩; have HB := Aside0.mk (below_step HB.out HE_.out); have HZ_12 := Aside0.mk HE_.out.size; have HW_p1 := Aside0.mk (Kd.S_below HW_p1.out HE_.out); have HW_w := Aside0.mk (Kd.S_below HW_w.out HE_.out); have HW_g := Aside0.mk (Kd.S_below HW_g.out HE_.out); have HW_p2 := Aside0.mk (Kd.S_below HW_p2.out HE_.out); have HX_0 := Aside0.mk (blk_below HX_0.out HE_.out); have HX_1 := Aside0.mk (blk_below HX_1.out HE_.out); have HX_2 := Aside0.mk (blk_below HX_2.out HE_.out); have HX_3 := Aside0.mk (blk_below HX_3.out HE_.out); (try clear hc0_0); (try clear hc0_1); (try clear hc1_0); (try clear hc1_1); (try clear hc2_0); (try clear hc2_1); (try clear hc3_0); (try clear hc3_1); clear hb; have hc0_0 : w12.cell? ⟨w.heap.size, 0, none⟩ = some (.int .i64 n_a) := (blk_cell HX_0.out 0).trans rfl; have hc0_1 : w12.cell? ⟨w.heap.size, 1, none⟩ = some (.slice A_a (l_a).length c_a) := (blk_cell HX_0.out 1).trans rfl; have hc1_0 : w12.cell? ⟨w3.heap.size, 0, none⟩ = some (.int .i64 wn) := (blk_cell HX_1.out 0).trans rfl; have hc1_1 : w12.cell? ⟨w3.heap.size, 1, none⟩ = some (.slice A_w (wl).length c_w) := (blk_cell HX_1.out 1).trans rfl; have hc2_0 : w12.cell? ⟨w4.heap.size, 0, none⟩ = some (.int .i64 pn) := (blk_cell HX_2.out 0).trans rfl; have hc2_1 : w12.cell? ⟨w4.heap.size, 1, none⟩ = some (.slice A_x (pl).length c_x) := (blk_cell HX_2.out 1).trans rfl; have hc3_0 : w12.cell? ⟨w5.heap.size, 0, none⟩ = some (.int .i64 gn) := (blk_cell HX_3.out 0).trans rfl; have hc3_1 : w12.cell? ⟨w5.heap.size, 1, none⟩ = some (.slice A_g (ml).length c_g) := (blk_cell HX_3.out 1).trans rfl; refine Aside0.out ?_)
    refine Aside0.mk ?_
    go_wp2_with (go_at_call 31; refine (laws_toCards.calls k n_a A_a c_a l_a pn (pl) _ (by repeat (first | (with_reducible exact (Kd.C_below HA_a.out HB.out)) | (with_reducible refine Kd.C_alloc ?_ _) | (with_reducible refine Kd.C_drewN ?_ _) | (with_reducible refine Kd.C_drew ?_))) HC_a.out H1.out).mono ?_; rintro e w13 ⟨v_, rfl, ho, hb⟩; have HE_ : Aside0 (Below w12.heap.size w12 w13) := ⟨below_step (by repeat (first | (with_reducible exact Below.refl _ _) | (with_reducible refine below_alloc ?_ _) | (with_reducible refine pw_below_drewN ?_ _) | (with_reducible refine below_drew ?_))) hb⟩; obtain ⟨A_p3, c_p3, rfl⟩ := Kd.S_slice ho; have HW_p3 := Aside0.mk (S_iv ho (show Below w12.heap.size w12 _ from (by repeat (first | (with_reducible exact Below.refl _ _) | (with_reducible refine below_alloc ?_ _) | (with_reducible refine pw_below_drewN ?_ _) | (with_reducible refine below_drew ?_)))).size HB.out.size); have HB := Aside0.mk (below_step HB.out HE_.out); have HZ_13 := Aside0.mk HE_.out.size; have HW_p1 := Aside0.mk (Kd.S_below HW_p1.out HE_.out); have HW_w := Aside0.mk (Kd.S_below HW_w.out HE_.out); have HW_g := Aside0.mk (Kd.S_below HW_g.out HE_.out); have HW_p2 := Aside0.mk (Kd.S_below HW_p2.out HE_.out); have HX_0 := Aside0.mk (blk_below HX_0.out HE_.out); have HX_1 := Aside0.mk (blk_below HX_1.out HE_.out); have HX_2 := Aside0.mk (blk_below HX_2.out HE_.out); have HX_3 := Aside0.mk (blk_below HX_3.out HE_.out); (try clear hc0_0); (try clear hc0_1); (try clear hc1_0); (try clear hc1_1); (try clear hc2_0); (try clear hc2_1); (try clear hc3_0); (try clear hc3_1); clear hb ho; have hc0_0 : w13.cell? ⟨w.heap.size, 0, none⟩ = some (.int .i64 n_a) := (blk_cell HX_0.out 0).trans rfl; have hc0_1 : w13.cell? ⟨w.heap.size, 1, none⟩ = some (.slice A_a (l_a).length c_a) := (blk_cell HX_0.out 1).trans rfl; have hc1_0 : w13.cell? ⟨w3.heap.size, 0, none⟩ = some (.int .i64 wn) := (blk_cell HX_1.out 0).trans rfl; have hc1_1 : w13.cell? ⟨w3.heap.size, 1, none⟩ = some (.slice A_w (wl).length c_w) := (blk_cell HX_1.out 1).trans rfl; have hc2_0 : w13.cell? ⟨w4.heap.size, 0, none⟩ = some (.int .i64 pn) := (blk_cell HX_2.out 0).trans rfl; have hc2_1 : w13.cell? ⟨w4.heap.size, 1, none⟩ = some (.slice A_x (pl).length c_x) := (blk_cell HX_2.out 1).trans rfl; have hc3_0 : w13.cell? ⟨w5.heap.size, 0, none⟩ = some (.int .i64 gn) := (blk_cell HX_3.out 0).trans rfl; have hc3_1 : w13.cell? ⟨w5.heap.size, 1, none⟩ = some (.slice A_g (ml).length c_g) := (blk_cell HX_3.out 1).trans rfl; refine Aside0.out ?_)
    refine Aside0.mk ?_
    go_wp2_with (go_at_call 38; refine (impl_DropCard.calls k pn A_p3 c_p3 (pl) x_b gn (gl) gb _ (by repeat (first | (with_reducible exact (Kd.S_reads' HW_p3.out).2.2) | (with_reducible refine Kd.C_alloc ?_ _) | (with_reducible refine Kd.C_drewN ?_ _) | (with_reducible refine Kd.C_drew ?_))) (Kd.S_reads' HW_p3.out).2.1 H3.out).mono ?_; rintro e w14 ⟨v_, rfl, ho, hb⟩; have HE_ : Aside0 (Below w13.heap.size w13 w14) := ⟨below_step (by repeat (first | (with_reducible exact Below.refl _ _) | (with_reducible refine below_alloc ?_ _) | (with_reducible refine pw_below_drewN ?_ _) | (with_reducible refine below_drew ?_))) hb⟩; obtain ⟨A_h, c_h, rfl⟩ := Kd.S_slice ho; have HW_h := Aside0.mk (S_iv ho (show Below w13.heap.size w13 _ from (by repeat (first | (with_reducible exact Below.refl _ _) | (with_reducible refine below_alloc ?_ _) | (with_reducible refine pw_below_drewN ?_ _) | (with_reducible refine below_drew ?_)))).size HB.out.size); have HB := Aside0.mk (below_step HB.out HE_.out); have HZ_14 := Aside0.mk HE_.out.size; have HW_p1 := Aside0.mk (Kd.S_below HW_p1.out HE_.out); have HW_w := Aside0.mk (Kd.S_below HW_w.out HE_.out); have HW_g := Aside0.mk (Kd.S_below HW_g.out HE_.out); have HW_p2 := Aside0.mk (Kd.S_below HW_p2.out HE_.out); have HW_p3 := Aside0.mk (Kd.S_below HW_p3.out HE_.out); have HX_0 := Aside0.mk (blk_below HX_0.out HE_.out); have HX_1 := Aside0.mk (blk_below HX_1.out HE_.out); have HX_2 := Aside0.mk (blk_below HX_2.out HE_.out); have HX_3 := Aside0.mk (blk_below HX_3.out HE_.out); (try clear hc0_0); (try clear hc0_1); (try clear hc1_0); (try clear hc1_1); (try clear hc2_0); (try clear hc2_1); (try clear hc3_0); (try clear hc3_1); clear hb ho; have hc0_0 : w14.cell? ⟨w.heap.size, 0, none⟩ = some (.int .i64 n_a) := (blk_cell HX_0.out 0).trans rfl; have hc0_1 : w14.cell? ⟨w.heap.size, 1, none⟩ = some (.slice A_a (l_a).length c_a) := (blk_cell HX_0.out 1).trans rfl; have hc1_0 : w14.cell? ⟨w3.heap.size, 0, none⟩ = some (.int .i64 wn) := (blk_cell HX_1.out 0).trans rfl; have hc1_1 : w14.cell? ⟨w3.heap.size, 1, none⟩ = some (.slice A_w (wl).length c_w) := (blk_cell HX_1.out 1).trans rfl; have hc2_0 : w14.cell? ⟨w4.heap.size, 0, none⟩ = some (.int .i64 pn) := (blk_cell HX_2.out 0).trans rfl; have hc2_1 : w14.cell? ⟨w4.heap.size, 1, none⟩ = some (.slice A_x (pl).length c_x) := (blk_cell HX_2.out 1).trans rfl; have hc3_0 : w14.cell? ⟨w5.heap.size, 0, none⟩ = some (.int .i64 gn) := (blk_cell HX_3.out 0).trans rfl; have hc3_1 : w14.cell? ⟨w5.heap.size, 1, none⟩ = some (.slice A_g (ml).length c_g) := (blk_cell HX_3.out 1).trans rfl; refine Aside0.out ?_)
    refine Aside0.mk ?_
    have hca0_0 : (w14.alloc (.cells #[.int .i64 gn, .slice A_h (gl).length c_h] 46)).cell? ⟨w.heap.size, 0, none⟩ = some (.int .i64 n_a) := (blk_cell (blk_alloc HX_0.out _) 0).trans rfl
    have hca0_1 : (w14.alloc (.cells #[.int .i64 gn, .slice A_h (gl).length c_h] 46)).cell? ⟨w.heap.size, 1, none⟩ = some (.slice A_a (l_a).length c_a) := (blk_cell (blk_alloc HX_0.out _) 1).trans rfl
    have hca1_0 : (w14.alloc (.cells #[.int .i64 gn, .slice A_h (gl).length c_h] 46)).cell? ⟨w3.heap.size, 0, none⟩ = some (.int .i64 wn) := (blk_cell (blk_alloc HX_1.out _) 0).trans rfl
    have hca1_1 : (w14.alloc (.cells #[.int .i64 gn, .slice A_h (gl).length c_h] 46)).cell? ⟨w3.heap.size, 1, none⟩ = some (.slice A_w (wl).length c_w) := (blk_cell (blk_alloc HX_1.out _) 1).trans rfl
    have hca2_0 : (w14.alloc (.cells #[.int .i64 gn, .slice A_h (gl).length c_h] 46)).cell? ⟨w4.heap.size, 0, none⟩ = some (.int .i64 pn) := (blk_cell (blk_alloc HX_2.out _) 0).trans rfl
    have hca2_1 : (w14.alloc (.cells #[.int .i64 gn, .slice A_h (gl).length c_h] 46)).cell? ⟨w4.heap.size, 1, none⟩ = some (.slice A_x (pl).length c_x) := (blk_cell (blk_alloc HX_2.out _) 1).trans rfl
    have hca3_0 : (w14.alloc (.cells #[.int .i64 gn, .slice A_h (gl).length c_h] 46)).cell? ⟨w5.heap.size, 0, none⟩ = some (.int .i64 gn) := (blk_cell (blk_alloc HX_3.out _) 0).trans rfl
    have hca3_1 : (w14.alloc (.cells #[.int .i64 gn, .slice A_h (gl).length c_h] 46)).cell? ⟨w5.heap.size, 1, none⟩ = some (.slice A_g (ml).length c_g) := (blk_cell (blk_alloc HX_3.out _) 1).trans rfl
    have hcn_0 : (w14.alloc (.cells #[.int .i64 gn, .slice A_h (gl).length c_h] 46)).cell? ⟨w14.heap.size, 0, none⟩ = some (.int .i64 gn) := (blk_cell (blk_new _ _) 0).trans rfl
    have hcn_1 : (w14.alloc (.cells #[.int .i64 gn, .slice A_h (gl).length c_h] 46)).cell? ⟨w14.heap.size, 1, none⟩ = some (.slice A_h (gl).length c_h) := (blk_cell (blk_new _ _) 1).trans rfl
    go_wp2_with (go_at_call 34; refine (laws_eqCards.calls k gn A_h c_h (gl) wn A_w c_w (wl) true _ (by repeat (first | (with_reducible exact (Kd.S_reads' HW_h.out).2.2) | (with_reducible refine Kd.C_alloc ?_ _) | (with_reducible refine Kd.C_drewN ?_ _) | (with_reducible refine Kd.C_drew ?_))) (Kd.S_reads' HW_h.out).2.1 (by repeat (first | (with_reducible exact (Kd.S_reads' HW_w.out).2.2) | (with_reducible refine Kd.C_alloc ?_ _) | (with_reducible refine Kd.C_drewN ?_ _) | (with_reducible refine Kd.C_drew ?_))) (Kd.S_reads' HW_w.out).2.1 H4.out).mono ?_; rintro e w15 ⟨rfl, hb⟩; (first | replace hb := hb.below | skip); have HE_ : Aside0 (Below w14.heap.size w14 w15) := ⟨below_step (by repeat (first | (with_reducible exact Below.refl _ _) | (with_reducible refine below_alloc ?_ _) | (with_reducible refine pw_below_drewN ?_ _) | (with_reducible refine below_drew ?_))) hb⟩; have HB := Aside0.mk (below_step HB.out HE_.out); have HZ_15 := Aside0.mk HE_.out.size; have HW_p1 := Aside0.mk (Kd.S_below HW_p1.out HE_.out); have HW_w := Aside0.mk (Kd.S_below HW_w.out HE_.out); have HW_g := Aside0.mk (Kd.S_below HW_g.out HE_.out); have HW_p2 := Aside0.mk (Kd.S_below HW_p2.out HE_.out); have HW_p3 := Aside0.mk (Kd.S_below HW_p3.out HE_.out); have HW_h := Aside0.mk (Kd.S_below HW_h.out HE_.out); have HX_0 := Aside0.mk (blk_below HX_0.out HE_.out); have HX_1 := Aside0.mk (blk_below HX_1.out HE_.out); have HX_2 := Aside0.mk (blk_below HX_2.out HE_.out); have HX_3 := Aside0.mk (blk_below HX_3.out HE_.out); have HX_4 : Aside0 (w15.heap[w14.heap.size]? = some (.cells #[.int .i64 gn, .slice A_h (gl).length c_h] 46 (0, 0))) := ⟨blk_below (by repeat (first | (with_reducible exact blk_new _ _) | (with_reducible refine blk_alloc ?_ _) | (with_reducible refine blk_drewN ?_ _) | (with_reducible refine blk_drew ?_))) hb⟩; have HXL_4 := Aside0.mk (blk_lt HX_4.out); (try clear hc0_0); (try clear hc0_1); (try clear hc1_0); (try clear hc1_1); (try clear hc2_0); (try clear hc2_1); (try clear hc3_0); (try clear hc3_1); (try clear hc4_0); (try clear hc4_1); clear hca0_0; clear hca0_1; clear hca1_0; clear hca1_1; clear hca2_0; clear hca2_1; clear hca3_0; clear hca3_1; clear hcn_0; clear hcn_1; clear hb; have hc0_0 : w15.cell? ⟨w.heap.size, 0, none⟩ = some (.int .i64 n_a) := (blk_cell HX_0.out 0).trans rfl; have hc0_1 : w15.cell? ⟨w.heap.size, 1, none⟩ = some (.slice A_a (l_a).length c_a) := (blk_cell HX_0.out 1).trans rfl; have hc1_0 : w15.cell? ⟨w3.heap.size, 0, none⟩ = some (.int .i64 wn) := (blk_cell HX_1.out 0).trans rfl; have hc1_1 : w15.cell? ⟨w3.heap.size, 1, none⟩ = some (.slice A_w (wl).length c_w) := (blk_cell HX_1.out 1).trans rfl; have hc2_0 : w15.cell? ⟨w4.heap.size, 0, none⟩ = some (.int .i64 pn) := (blk_cell HX_2.out 0).trans rfl; have hc2_1 : w15.cell? ⟨w4.heap.size, 1, none⟩ = some (.slice A_x (pl).length c_x) := (blk_cell HX_2.out 1).trans rfl; have hc3_0 : w15.cell? ⟨w5.heap.size, 0, none⟩ = some (.int .i64 gn) := (blk_cell HX_3.out 0).trans rfl; have hc3_1 : w15.cell? ⟨w5.heap.size, 1, none⟩ = some (.slice A_g (ml).length c_g) := (blk_cell HX_3.out 1).trans rfl; have hc4_0 : w15.cell? ⟨w14.heap.size, 0, none⟩ = some (.int .i64 gn) := (blk_cell HX_4.out 0).trans rfl; have hc4_1 : w15.cell? ⟨w14.heap.size, 1, none⟩ = some (.slice A_h (gl).length c_h) := (blk_cell HX_4.out 1).trans rfl; refine Aside0.out ?_)
    refine Aside0.mk ?_
    go_wp2_with (go_at_call 36; refine (laws_heldCards.calls k gn A_g c_g (ml) 1 q _ (by repeat (first | (with_reducible exact (Kd.S_reads' HW_g.out).2.2) | (with_reducible refine Kd.C_alloc ?_ _) | (with_reducible refine Kd.C_drewN ?_ _) | (with_reducible refine Kd.C_drew ?_))) (Kd.S_reads' HW_g.out).2.1 H8.out).mono ?_; rintro e w16 ⟨rfl, hb⟩; (first | replace hb := hb.below | skip); have HE_ : Aside0 (Below w15.heap.size w15 w16) := ⟨below_step (by repeat (first | (with_reducible exact Below.refl _ _) | (with_reducible refine below_alloc ?_ _) | (with_reducible refine pw_below_drewN ?_ _) | (with_reducible refine below_drew ?_))) hb⟩; have HB := Aside0.mk (below_step HB.out HE_.out); have HZ_16 := Aside0.mk HE_.out.size; have HW_p1 := Aside0.mk (Kd.S_below HW_p1.out HE_.out); have HW_w := Aside0.mk (Kd.S_below HW_w.out HE_.out); have HW_g := Aside0.mk (Kd.S_below HW_g.out HE_.out); have HW_p2 := Aside0.mk (Kd.S_below HW_p2.out HE_.out); have HW_p3 := Aside0.mk (Kd.S_below HW_p3.out HE_.out); have HW_h := Aside0.mk (Kd.S_below HW_h.out HE_.out); have HX_0 := Aside0.mk (blk_below HX_0.out HE_.out); have HX_1 := Aside0.mk (blk_below HX_1.out HE_.out); have HX_2 := Aside0.mk (blk_below HX_2.out HE_.out); have HX_3 := Aside0.mk (blk_below HX_3.out HE_.out); have HX_4 := Aside0.mk (blk_below HX_4.out HE_.out); (try clear hc0_0); (try clear hc0_1); (try clear hc1_0); (try clear hc1_1); (try clear hc2_0); (try clear hc2_1); (try clear hc3_0); (try clear hc3_1); (try clear hc4_0); (try clear hc4_1); clear hb; have hc0_0 : w16.cell? ⟨w.heap.size, 0, none⟩ = some (.int .i64 n_a) := (blk_cell HX_0.out 0).trans rfl; have hc0_1 : w16.cell? ⟨w.heap.size, 1, none⟩ = some (.slice A_a (l_a).length c_a) := (blk_cell HX_0.out 1).trans rfl; have hc1_0 : w16.cell? ⟨w3.heap.size, 0, none⟩ = some (.int .i64 wn) := (blk_cell HX_1.out 0).trans rfl; have hc1_1 : w16.cell? ⟨w3.heap.size, 1, none⟩ = some (.slice A_w (wl).length c_w) := (blk_cell HX_1.out 1).trans rfl; have hc2_0 : w16.cell? ⟨w4.heap.size, 0, none⟩ = some (.int .i64 pn) := (blk_cell HX_2.out 0).trans rfl; have hc2_1 : w16.cell? ⟨w4.heap.size, 1, none⟩ = some (.slice A_x (pl).length c_x) := (blk_cell HX_2.out 1).trans rfl; have hc3_0 : w16.cell? ⟨w5.heap.size, 0, none⟩ = some (.int .i64 gn) := (blk_cell HX_3.out 0).trans rfl; have hc3_1 : w16.cell? ⟨w5.heap.size, 1, none⟩ = some (.slice A_g (ml).length c_g) := (blk_cell HX_3.out 1).trans rfl; have hc4_0 : w16.cell? ⟨w14.heap.size, 0, none⟩ = some (.int .i64 gn) := (blk_cell HX_4.out 0).trans rfl; have hc4_1 : w16.cell? ⟨w14.heap.size, 1, none⟩ = some (.slice A_h (gl).length c_h) := (blk_cell HX_4.out 1).trans rfl; refine Aside0.out ?_)
    refine Aside0.mk ?_
    go_wp2
    go_ret
    exact ⟨rfl, (by repeat (first | (with_reducible exact HB.out) | (with_reducible refine below_alloc ?_ _) | (with_reducible refine pw_below_drewN ?_ _) | (with_reducible refine below_drew ?_)))⟩


end Go.Proofs.Ytfiikhdkohgmfaa.PFnExactDropCard
