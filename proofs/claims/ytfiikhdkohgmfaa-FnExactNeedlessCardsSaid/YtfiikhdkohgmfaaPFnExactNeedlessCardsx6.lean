-- MADE FOR THIS CLAIM by wip/xp/xprint.py (with the kit's print; some functions' contracts proved by hand)
import Derived.Maps.OwnSet
import Derived.Test.YtfiikhdkohgmfaaPFnExactNeedlessCardsx0
import Derived.Test.YtfiikhdkohgmfaaPFnExactNeedlessCardsx1
import Derived.Test.YtfiikhdkohgmfaaPFnExactNeedlessCardsx2
import Derived.Test.YtfiikhdkohgmfaaPFnExactNeedlessCardsx4
import Derived.Test.YtfiikhdkohgmfaaPFnExactNeedlessCardsx5
namespace Go.Proofs.Ytfiikhdkohgmfaa.PFnExactNeedlessCards
open Go.RowKit Go.Proofs.YtfiikhdkohgmfaaW.PrintWords Go.Proofs.YtfiikhdkohgmfaaW.PrintLast Go.Proofs.YtfiikhdkohgmfaaW.PrintMore
attribute [local go_sem] max2_int min2_int max_two min_two max_three min_three max_four min_four   -- for this text's walks alone
set_option linter.unusedVariables false
set_option linter.unusedSimpArgs false

/-! ### impl_Cards_answers: function 131 -/
def impl_Cards_answers.l0 : Nat → Int → List Int → List (List Int) → Int → Int → Option (ByteArray)
  | 0, _, _, _, _, _ => none
  | k + 1, x1, x5, x12, x13, x14 => if x14 < x13 then (if 0 ≤ x14 then (if x14 < (x12.length : Int) then ((slices_BinarySearch_int_int.f (rd_L1 x12 x14) x1).bind fun bt195 => (if bt195.2 = true then (if x5.length < 140737488355328 then (impl_Cards_answers.l0 k x1 (x5 ++ [121]) x12 x13 (wrap64 (x14 + 1))) else (none)) else (if x5.length < 140737488355328 then (impl_Cards_answers.l0 k x1 (x5 ++ [110]) x12 x13 (wrap64 (x14 + 1))) else (none)))) else (none)) else (none)) else (some (strOfNums x5))
def impl_Cards_answers.f (k : Nat) (a0_0 : Int) (l0_1 : List (List Int)) (a1 : Int) : Option (ByteArray) := impl_Cards_answers.l0 k a1 (([] : List Int)) l0_1 (l0_1.length : Int) 0
theorem impl_Cards_answers.mono_l : ∀ k, (∀ y0 y1 y2 y3 y4, LeO (impl_Cards_answers.l0 k y0 y1 y2 y3 y4) (impl_Cards_answers.l0 (k + 1) y0 y1 y2 y3 y4))
  | 0 => fun _ _ _ _ _ r h => by simp [impl_Cards_answers.l0] at h
  | k + 1 => by
    have ih0 := impl_Cards_answers.mono_l k
    · intro y0 y1 y2 y3 y4
      unfold impl_Cards_answers.l0
      repeat' first
      | (with_reducible exact ih0 _ _ _ _ _)
      | (with_reducible exact LeO.refl _)
      | (with_reducible exact LeO.none _)
      | (with_reducible refine LeO.ite ?_ ?_)
      | (with_reducible refine LeO.bind ?_ (fun _ => ?_))
      | exact ih0 _ _ _ _ _
      | exact LeO.none _
      | refine LeO.ite ?_ ?_
      | refine LeO.bind ?_ (fun _ => ?_)
theorem impl_Cards_answers.mono : ∀ a0 a1 a2 k, LeO (impl_Cards_answers.f k a0 a1 a2) (impl_Cards_answers.f (k + 1) a0 a1 a2) := by
  intro a0 a1 a2 k
  have ih0 := impl_Cards_answers.mono_l k
  unfold impl_Cards_answers.f
  repeat' first
      | (with_reducible exact ih0 _ _ _ _ _)
      | (with_reducible exact LeO.refl _)
      | (with_reducible exact LeO.none _)
      | (with_reducible refine LeO.ite ?_ ?_)
      | (with_reducible refine LeO.bind ?_ (fun _ => ?_))
      | exact ih0 _ _ _ _ _
      | exact LeO.none _
      | refine LeO.ite ?_ ?_
      | refine LeO.bind ?_ (fun _ => ?_)
set_option maxHeartbeats 8000000 in
set_option maxRecDepth 100000 in
theorem impl_Cards_answers.calls (k : Nat) (a0_0 : Int) (A0_1 : Option Addr) (c0_1 : Nat) (l0_1 : List (List Int)) (a1 : Int) (r : ByteArray) (w : World) (hr0_1 : Kd.C (Kd.slice 3 (Kd.int .i64)) w A0_1 l0_1.length l0_1) (hc0_1 : l0_1.length ≤ c0_1) (h : impl_Cards_answers.f k a0_0 l0_1 a1 = some r) :
    Calls Try.prog 131 #[.agg #[.int .i64 a0_0, .slice A0_1 l0_1.length c0_1], .int .i64 a1] w fun e w' => e = .returned (.string r) ∧ Below w.heap.size w w' := by
  have hu46 := Try.underlying46
  have HR0_1 := Aside0.mk hr0_1
  have HC0_1 := Aside0.mk hc0_1
  clear hr0_1 hc0_1
  have HB := Aside0.mk (Below.refl w.heap.size w)
  have H : (impl_Cards_answers.l0 k a1 (([] : List Int)) l0_1 (l0_1.length : Int) 0) = some r := h
  clear h
  obtain ⟨y191, hy191⟩ : ∃ y_ : List Int, y_ = (([] : List Int)) := ⟨_, rfl⟩
  replace H : (impl_Cards_answers.l0 k a1 y191 l0_1 (l0_1.length : Int) 0) = some r := by first | (rw [hy191]; with_reducible exact H) | (have H2_ := (Option.bind_some _ _).symm.trans H; rw [hy191]; with_reducible exact H2_) | (have H2_ := (Option.bind_some _ _).symm.trans H; with_reducible exact H2_) | with_reducible exact H | (rw [hy191]; exact H) | exact H
  have Ny191 := Aside0.mk hy191
  clear hy191
  have H' := Aside0.mk H
  clear H
  go_enter Try.func131, Try.ntmps131
  go_wp2_with (first | ((with_reducible refine gate_dst (N := 2) rfl ?_); refine box_event ?hg (N := 2) ?hd (cs := #[.int .i64 a0_0, .slice A0_1 l0_1.length c0_1]) (t := 46) ?hr ?_; (case hd => rfl); (case hg => rfl); (case hr => first | (go_simp; done) | (go_simp; rfl)); intro gb190 hg w3 hbox hb; have n0_ := Aside0.mk (below_step (by repeat (first | (with_reducible first | exact HB.out | apply below_alloc | apply pw_below_drewN | apply below_drew1) | exact HB.out)) hb); have n1_ := Aside0.mk (hbox); have n2_ := Aside0.mk ((by rw [hg]; exact (below_size (by repeat (first | (with_reducible first | exact HB.out | apply below_alloc | apply pw_below_drewN | apply below_drew1) | exact HB.out))) : w.heap.size ≤ gb190)); have n3_ := Aside0.mk ((by rw [hg]; exact (below_size (by repeat (first | (with_reducible first | exact HB.out | apply below_alloc | apply pw_below_drewN | apply below_drew1) | exact HB.out))) : w.heap.size ≤ gb190)); clear HB; have HB := n0_; have BK190 := n1_; have GW190 := n2_; have GE190 := n3_; clear n0_ n1_ n2_ n3_; clear hb hbox hg) | ((with_reducible refine gate_dst (N := 10) rfl ?_); refine Kd.R_lit (Kd.int .u8) _ 5 ?hg (N := 10) ?hd (xs := ([] : List Int)) (inner := []) (ok := fun _ => True) (okp := fun _ => True) ?hr ?hp (fun _ hk => hk) trivial (Below.refl _ _) (Nat.le_refl _) (by simp) ?_; (case hd => rfl); (case hg => rfl); (case hr => first | (go_simp; done) | (go_simp; rfl)); (case hp => exact (Reps.none _ _)); intro v192 w4 ho5 hb hg_ hnew_; clear hg_ hnew_; (first | rw [← Ny191.out] at ho5 | (simp only [Int.reduceToNat] at ho5; rw [← Ny191.out] at ho5)); have n0_ := Aside0.mk (Kd.R_lower ho5 (below_size (by repeat (first | (with_reducible first | exact HB.out | apply below_alloc | apply pw_below_drewN | apply below_drew1 | refine below_set ?_ GE190.out) | exact HB.out)))); have n1_ := Aside0.mk (blk_below (g := gb190) (o := .cells #[.int .i64 a0_0, .slice A0_1 l0_1.length c0_1] 46 (0, 0)) (by (with_reducible repeat (first | refine blk_drewN ?_ _ | refine blk_drew ?_ | refine blk_alloc ?_ _)); exact BK190.out) hb); have n2_ := Aside0.mk (below_step (by repeat (first | (with_reducible first | exact HB.out | apply below_alloc | apply pw_below_drewN | apply below_drew1 | refine below_set ?_ GE190.out) | exact HB.out)) hb); clear BK190; clear HB; have HO193 := n0_; have BK190 := n1_; have HB := n2_; clear n0_ n1_ n2_; clear hb ho5; have hcz6_0 : w4.cell? ⟨gb190, 0, none⟩ = some (.int .i64 a0_0) := (blk_cell BK190.out 0).trans rfl; have hcz6_1 : w4.cell? ⟨gb190, 1, none⟩ = some (.slice A0_1 l0_1.length c0_1) := (blk_cell BK190.out 1).trans rfl; have hfz6_0 := blk_frozen BK190.out 0; have hfz6_1 := blk_frozen BK190.out 1))
  go_loopg [5, 14] k (fun kq v5 v14 w' => ∃ (x5_1 : List Int) (x14_1 : Int), v14 = .int .i64 x14_1 ∧ Aside0 (impl_Cards_answers.l0 kq a1 x5_1 l0_1 (l0_1.length : Int) x14_1 = some r) ∧ Aside0 (kq ≤ k) ∧ Aside0 (Kd.R (Kd.int .u8) 5 w' w.heap.size (fun _ => True) v5 x5_1) ∧ Aside0 (w'.heap[gb190]? = some (.cells #[.int .i64 a0_0, (.slice A0_1 l0_1.length c0_1)] 46 (0, 0))) ∧ Aside0 (Below w.heap.size w w'))
  case atStart => exact ⟨(y191), (0), (by first | rfl | (simp; done) | (simp [*]; done)), H', ⟨Nat.le_refl _⟩, ⟨by (with_reducible repeat (first | apply Kd.R_alloc | apply Kd.R_drewN | apply Kd.R_drew)); exact HO193.out⟩, ⟨by (with_reducible repeat (first | refine blk_drewN ?_ _ | refine blk_drew ?_ | refine blk_alloc ?_ _)); exact BK190.out⟩, ⟨by repeat (first | (with_reducible first | exact HB.out | apply below_alloc | apply pw_below_drewN | apply below_drew1 | refine below_set ?_ GE190.out) | exact HB.out)⟩⟩
  case round =>
    clear H'
    try clear c1
    try clear p2
    try clear hcz6_0
    try clear hcz6_1
    try clear hfz6_0
    try clear hfz6_1
    obtain ⟨x5_1, x14_1, rfl, HA, HK1, HO_5, BK190, HB⟩ := hrel
    cases gk with
    | zero => exact absurd HA.out (by simp [impl_Cards_answers.l0])
    | succ k1 =>
      have H := HA.out
      clear HA
      simp only [impl_Cards_answers.l0] at H
      by_cases c7 : x14_1 < (l0_1.length : Int)
      · rw [if_pos c7] at H
        have c7b0 : decide (x14_1 < (l0_1.length : Int)) = true := decide_eq_true c7
        clear c7
        by_cases c8 : 0 ≤ x14_1
        · rw [if_pos c8] at H
          have c8b0 : decide (0 ≤ x14_1) = true := decide_eq_true c8
          clear c8
          by_cases c9 : x14_1 < (l0_1.length : Int)
          · rw [if_pos c9] at H
            have c9b0 : decide (x14_1 < (l0_1.length : Int)) = true := decide_eq_true c9
            clear c9
            replace H := Option.bind_eq_some_iff.mp H
            obtain ⟨⟨t195, t196⟩, A100, H⟩ := H
            replace H : (if t196 = true then (if x5_1.length < 140737488355328 then (impl_Cards_answers.l0 k1 a1 (x5_1 ++ [121]) l0_1 (l0_1.length : Int) (wrap64 (x14_1 + 1))) else (none)) else (if x5_1.length < 140737488355328 then (impl_Cards_answers.l0 k1 a1 (x5_1 ++ [110]) l0_1 (l0_1.length : Int) (wrap64 (x14_1 + 1))) else (none))) = some r := H
            have A10 := Aside0.mk A100
            clear A100
            by_cases c11 : t196 = true
            · subst c11
              have H1 : (if x5_1.length < 140737488355328 then (impl_Cards_answers.l0 k1 a1 (x5_1 ++ [121]) l0_1 (l0_1.length : Int) (wrap64 (x14_1 + 1))) else (none)) = some r := by rw [if_pos rfl] at H; exact H
              clear H
              have H := H1
              clear H1
              by_cases c12 : x5_1.length < 140737488355328
              · rw [if_pos c12] at H
                have LMc12 := Aside0.mk c12
                clear c12
                obtain ⟨y197, hy197⟩ : ∃ y_ : List Int, y_ = (x5_1 ++ [121]) := ⟨_, rfl⟩
                replace H : (impl_Cards_answers.l0 k1 a1 y197 l0_1 (l0_1.length : Int) (wrap64 (x14_1 + 1))) = some r := by first | (rw [hy197]; with_reducible exact H) | (have H2_ := (Option.bind_some _ _).symm.trans H; rw [hy197]; with_reducible exact H2_) | (have H2_ := (Option.bind_some _ _).symm.trans H; with_reducible exact H2_) | with_reducible exact H | (rw [hy197]; exact H) | exact H
                have Ny197 := Aside0.mk hy197
                clear hy197
                have H' := Aside0.mk H
                clear H
                have p194 : 0 ≤ (x14_1 : Int) := of_decide_eq_true (by first | (with_reducible assumption) | assumption)
                have q194 : x14_1 < (l0_1.length : Int) := of_decide_eq_true (by first | (with_reducible assumption) | assumption)
                obtain ⟨ad194, A194_0, c194_0, e194, hx194_0, hl194_0, hi194_0⟩ := at_L1 HR0_1.out x14_1 p194 q194
                cases e194
                replace hx194_0 := (HB.out.cell (World.block_lt_of_cell? w _ hx194_0)).trans hx194_0
                have HR194_0 := Aside0.mk hi194_0
                have HC194_0 := Aside0.mk hl194_0
                clear hi194_0 hl194_0
                replace p194 := eq_true p194
                replace q194 := eq_true q194
                go_wp2_with (first | ((with_reducible refine gate_callee (f := 156) rfl ?_); refine goesL_ (some 21) rfl rfl Try.func156 (by kernel_rfl) rfl #[.slice A194_0 (rd_L1 l0_1 x14_1).length c194_0, .int .i64 a1] rfl (by (try simp only [List.map_toArray, List.map_cons, List.map_nil]); first | done | rfl | (simp only [List.length_drop, List.length_take]; rfl)) ?_; (with_reducible refine (slices_BinarySearch_int_int.calls _ _ (rd_L1 l0_1 x14_1) a1 t195 true _ ?side1 ?side2 A10.out).mono ?_); (case side1 => repeat (first | exact (Kd.C_below HR194_0.out HB.out) | (with_reducible refine Kd.C_alloc ?_ _) | (with_reducible refine Kd.C_drewN ?_ _) | (with_reducible refine Kd.C_drew ?_))); (case side2 => exact HC194_0.out); rintro e w13 ⟨rfl, hb⟩; refine ⟨_, rfl, ?_⟩; have n0_ := Aside0.mk (Kd.R_below (by (with_reducible repeat (first | apply Kd.R_alloc | apply Kd.R_drewN | apply Kd.R_drew)); exact HO_5.out) hb); have n1_ := Aside0.mk (blk_below (g := gb190) (o := .cells #[.int .i64 a0_0, .slice (some ad194) l0_1.length c0_1] 46 (0, 0)) (by (with_reducible repeat (first | refine blk_drewN ?_ _ | refine blk_drew ?_ | refine blk_alloc ?_ _)); exact BK190.out) hb); have n2_ := Aside0.mk (below_step (by repeat (first | (with_reducible first | exact HB.out | apply below_alloc | apply pw_below_drewN | apply below_drew1 | refine below_set ?_ GE190.out) | exact HB.out)) hb); clear HO_5; clear BK190; clear HB; have HO_5 := n0_; have BK190 := n1_; have HB := n2_; clear n0_ n1_ n2_; (try clear hb); (try clear hb2); (try clear hk); (try clear hi)) | ((with_reducible refine gate_builtin (b := .append) (xs := #[.tmp 25, .tmp 26]) rfl ?_); at_builtin; refine Kd.R_append (Kd.int .u8) (w0 := w) w.heap.size rfl (.tmp 25) (.tmp 26) 132 5 (.int .u8 0) 1 rfl Try.underlying132 info5 rfl (by decide) (by omega) u5 x5_1 121 [.int .u8 121] (fun _ => True) (fun _ => False) rfl rfl ?aP (fun _ hk => hk.elim) ?aF ?aO ?aB ?aS ?aL ?_; (case aP => exact rfl); (case aB => exact (by repeat (first | (with_reducible first | exact HB.out | apply below_alloc | apply pw_below_drewN | apply below_drew1 | refine below_set ?_ GE190.out) | exact HB.out))); (case aF => exact (fun _ _ => trivial)); (case aO => exact (by (with_reducible repeat (first | apply Kd.R_alloc | apply Kd.R_drewN | apply Kd.R_drew)); exact HO_5.out)); (case aS => exact (below_size (by repeat (first | (with_reducible first | exact HB.out | apply below_alloc | apply pw_below_drewN | apply below_drew1 | refine below_set ?_ GE190.out) | exact HB.out)))); (case aL => have := LMc12.out; omega); intro v198 w14 ho hb hg hat; rw [← Ny197.out] at ho; have n0_ := Aside0.mk (blk_grown (g := gb190) (o := .cells #[.int .i64 a0_0, .slice (some ad194) l0_1.length c0_1] 46 (0, 0)) (by (with_reducible repeat (first | refine blk_drewN ?_ _ | refine blk_drew ?_ | refine blk_alloc ?_ _)); exact BK190.out) hg (Kd.R_ne HO_5.out BK190.out (by decide))); have n1_ := Aside0.mk (hb); have n2_ := Aside0.mk (ho); clear BK190; clear HB; clear HO_5; have BK190 := n0_; have HB := n1_; have HO199 := n2_; clear n0_ n1_ n2_; clear ho hb hg hat))
                go_roundg k1
                case measure => have := HK1.out; omega
                case rel => exact ⟨(y197), (wrap64 (x14_1 + 1)), (by first | rfl | (simp; done) | (simp [*]; done)), H', ⟨by have := HK1.out; omega⟩, ⟨by (with_reducible repeat (first | apply Kd.R_alloc | apply Kd.R_drewN | apply Kd.R_drew)); exact HO199.out⟩, ⟨by (with_reducible repeat (first | refine blk_drewN ?_ _ | refine blk_drew ?_ | refine blk_alloc ?_ _)); exact BK190.out⟩, ⟨by repeat (first | (with_reducible first | exact HB.out | apply below_alloc | apply pw_below_drewN | apply below_drew1 | refine below_set ?_ GE190.out) | exact HB.out)⟩⟩
              · rw [if_neg c12] at H
                exact absurd H (by simp)
            · replace c11 := Bool.eq_false_iff.mpr c11
              subst c11
              have H1 : (if x5_1.length < 140737488355328 then (impl_Cards_answers.l0 k1 a1 (x5_1 ++ [110]) l0_1 (l0_1.length : Int) (wrap64 (x14_1 + 1))) else (none)) = some r := by rw [if_neg (show ¬ (false = true) by decide)] at H; exact H
              clear H
              have H := H1
              clear H1
              by_cases c15 : x5_1.length < 140737488355328
              · rw [if_pos c15] at H
                have LMc15 := Aside0.mk c15
                clear c15
                obtain ⟨y200, hy200⟩ : ∃ y_ : List Int, y_ = (x5_1 ++ [110]) := ⟨_, rfl⟩
                replace H : (impl_Cards_answers.l0 k1 a1 y200 l0_1 (l0_1.length : Int) (wrap64 (x14_1 + 1))) = some r := by first | (rw [hy200]; with_reducible exact H) | (have H2_ := (Option.bind_some _ _).symm.trans H; rw [hy200]; with_reducible exact H2_) | (have H2_ := (Option.bind_some _ _).symm.trans H; with_reducible exact H2_) | with_reducible exact H | (rw [hy200]; exact H) | exact H
                have Ny200 := Aside0.mk hy200
                clear hy200
                have H' := Aside0.mk H
                clear H
                have p194 : 0 ≤ (x14_1 : Int) := of_decide_eq_true (by first | (with_reducible assumption) | assumption)
                have q194 : x14_1 < (l0_1.length : Int) := of_decide_eq_true (by first | (with_reducible assumption) | assumption)
                obtain ⟨ad194, A194_0, c194_0, e194, hx194_0, hl194_0, hi194_0⟩ := at_L1 HR0_1.out x14_1 p194 q194
                cases e194
                replace hx194_0 := (HB.out.cell (World.block_lt_of_cell? w _ hx194_0)).trans hx194_0
                have HR194_0 := Aside0.mk hi194_0
                have HC194_0 := Aside0.mk hl194_0
                clear hi194_0 hl194_0
                replace p194 := eq_true p194
                replace q194 := eq_true q194
                go_wp2_with (first | ((with_reducible refine gate_callee (f := 156) rfl ?_); refine goesL_ (some 21) rfl rfl Try.func156 (by kernel_rfl) rfl #[.slice A194_0 (rd_L1 l0_1 x14_1).length c194_0, .int .i64 a1] rfl (by (try simp only [List.map_toArray, List.map_cons, List.map_nil]); first | done | rfl | (simp only [List.length_drop, List.length_take]; rfl)) ?_; (with_reducible refine (slices_BinarySearch_int_int.calls _ _ (rd_L1 l0_1 x14_1) a1 t195 false _ ?side1 ?side2 A10.out).mono ?_); (case side1 => repeat (first | exact (Kd.C_below HR194_0.out HB.out) | (with_reducible refine Kd.C_alloc ?_ _) | (with_reducible refine Kd.C_drewN ?_ _) | (with_reducible refine Kd.C_drew ?_))); (case side2 => exact HC194_0.out); rintro e w16 ⟨rfl, hb⟩; refine ⟨_, rfl, ?_⟩; have n0_ := Aside0.mk (Kd.R_below (by (with_reducible repeat (first | apply Kd.R_alloc | apply Kd.R_drewN | apply Kd.R_drew)); exact HO_5.out) hb); have n1_ := Aside0.mk (blk_below (g := gb190) (o := .cells #[.int .i64 a0_0, .slice (some ad194) l0_1.length c0_1] 46 (0, 0)) (by (with_reducible repeat (first | refine blk_drewN ?_ _ | refine blk_drew ?_ | refine blk_alloc ?_ _)); exact BK190.out) hb); have n2_ := Aside0.mk (below_step (by repeat (first | (with_reducible first | exact HB.out | apply below_alloc | apply pw_below_drewN | apply below_drew1 | refine below_set ?_ GE190.out) | exact HB.out)) hb); clear HO_5; clear BK190; clear HB; have HO_5 := n0_; have BK190 := n1_; have HB := n2_; clear n0_ n1_ n2_; (try clear hb); (try clear hb2); (try clear hk); (try clear hi)) | ((with_reducible refine gate_builtin (b := .append) (xs := #[.tmp 28, .tmp 29]) rfl ?_); at_builtin; refine Kd.R_append (Kd.int .u8) (w0 := w) w.heap.size rfl (.tmp 28) (.tmp 29) 132 5 (.int .u8 0) 1 rfl Try.underlying132 info5 rfl (by decide) (by omega) u5 x5_1 110 [.int .u8 110] (fun _ => True) (fun _ => False) rfl rfl ?aP (fun _ hk => hk.elim) ?aF ?aO ?aB ?aS ?aL ?_; (case aP => exact rfl); (case aB => exact (by repeat (first | (with_reducible first | exact HB.out | apply below_alloc | apply pw_below_drewN | apply below_drew1 | refine below_set ?_ GE190.out) | exact HB.out))); (case aF => exact (fun _ _ => trivial)); (case aO => exact (by (with_reducible repeat (first | apply Kd.R_alloc | apply Kd.R_drewN | apply Kd.R_drew)); exact HO_5.out)); (case aS => exact (below_size (by repeat (first | (with_reducible first | exact HB.out | apply below_alloc | apply pw_below_drewN | apply below_drew1 | refine below_set ?_ GE190.out) | exact HB.out)))); (case aL => have := LMc15.out; omega); intro v201 w17 ho hb hg hat; rw [← Ny200.out] at ho; have n0_ := Aside0.mk (blk_grown (g := gb190) (o := .cells #[.int .i64 a0_0, .slice (some ad194) l0_1.length c0_1] 46 (0, 0)) (by (with_reducible repeat (first | refine blk_drewN ?_ _ | refine blk_drew ?_ | refine blk_alloc ?_ _)); exact BK190.out) hg (Kd.R_ne HO_5.out BK190.out (by decide))); have n1_ := Aside0.mk (hb); have n2_ := Aside0.mk (ho); clear BK190; clear HB; clear HO_5; have BK190 := n0_; have HB := n1_; have HO202 := n2_; clear n0_ n1_ n2_; clear ho hb hg hat))
                go_roundg k1
                case measure => have := HK1.out; omega
                case rel => exact ⟨(y200), (wrap64 (x14_1 + 1)), (by first | rfl | (simp; done) | (simp [*]; done)), H', ⟨by have := HK1.out; omega⟩, ⟨by (with_reducible repeat (first | apply Kd.R_alloc | apply Kd.R_drewN | apply Kd.R_drew)); exact HO202.out⟩, ⟨by (with_reducible repeat (first | refine blk_drewN ?_ _ | refine blk_drew ?_ | refine blk_alloc ?_ _)); exact BK190.out⟩, ⟨by repeat (first | (with_reducible first | exact HB.out | apply below_alloc | apply pw_below_drewN | apply below_drew1 | refine below_set ?_ GE190.out) | exact HB.out)⟩⟩
              · rw [if_neg c15] at H
                exact absurd H (by simp)
          · rw [if_neg c9] at H
            exact absurd H (by simp)
        · rw [if_neg c8] at H
          exact absurd H (by simp)
      · rw [if_neg c7] at H
        have c7b0 : decide (x14_1 < (l0_1.length : Int)) = false := decide_eq_false c7
        clear c7
        obtain rfl := Option.some.inj H
        have hcv18 := own_string (P := Try.prog) Try.underlying132 Try.underlying5 Try.underlying9 (Kd.own_of_R HO_5.out)
        go_wp2
        go_ret
        exact ⟨by first | rfl | (simp [errW_none, errW_some] <;> rfl) | (simp [*, errW_none, errW_some] <;> rfl), by repeat (first | (with_reducible first | exact HB.out | apply below_alloc | apply pw_below_drewN | apply below_drew1 | refine below_set ?_ GE190.out) | exact HB.out)⟩

/-! ### impl_Cards_tellsAll: function 87 -/
-- GIVEN (loop.example/g01305/impl.Cards).tellsAll rounds=1 only=1
-- NEEDS (loop.example/g01305/impl.Cards).answers
def tellsStr (k : Nat) (n : Int) (l : List (List Int)) (x : Nat) : ByteArray := (impl_Cards_answers.f k n l (x : Int)).getD ByteArray.empty
def tellsKeys (k : Nat) (n : Int) (l : List (List Int)) (m : Nat) : List Lit := (List.range m).map fun x => Lit.string (tellsStr k n l x).data.toList
def tellsSet (k : Nat) (n : Int) (l : List (List Int)) (m : Nat) : DataW Unit := Go.Maps.setOf (.lit (.bool true)) (tellsKeys k n l m)
theorem tellsSet_succ (k : Nat) (n : Int) (l : List (List Int)) (m : Nat) : tellsSet k n l (m + 1) = (tellsSet k n l m).put (Lit.string (tellsStr k n l m).data.toList) (.lit (.bool true)) := by
  unfold tellsSet tellsKeys
  rw [List.range_succ, List.map_append, List.map_singleton, Go.Maps.setOf_snoc]
def tellsOk (k : Nat) (n : Int) (l : List (List Int)) : Bool := (List.range n.toNat).all fun (x : Nat) => (impl_Cards_answers.f k n l (x : Int)).isSome && decide ((tellsStr k n l x).size ≤ 1000000)
def impl_Cards_tellsAll.f (k : Nat) (n : Int) (l : List (List Int)) : Option Bool := if 0 ≤ n ∧ n ≤ 1000000 ∧ tellsOk k n l = true then some ((Maps.size (tellsSet k n l n.toNat) : Int) == n) else none
theorem ownsMap_below {H : Type} {k b n : Nat} {R : Value → Option (DataW H × List MemPlace)} {D : DataW H} {W W' : World} (h : W.ownsMap Try.prog k R b n D) (hb : Below W.heap.size W W') : W'.ownsMap Try.prog k R b n D := by
  obtain ⟨es, clock, h1, r⟩ := h
  exact ⟨es, clock, blk_below h1 hb, r⟩
set_option maxHeartbeats 8000000 in
set_option maxRecDepth 100000 in
theorem impl_Cards_tellsAll.calls (k : Nat) (a0_0 : Int) (A0_1 : Option Addr) (c0_1 : Nat) (l0_1 : List (List Int)) (r : Bool) (w : World) (hr0_1 : Kd.C (Kd.slice 3 (Kd.int .i64)) w A0_1 l0_1.length l0_1) (hc0_1 : l0_1.length ≤ c0_1) (h : impl_Cards_tellsAll.f k a0_0 l0_1 = some r) :
    Calls Try.prog 87 #[.agg #[.int .i64 a0_0, .slice A0_1 l0_1.length c0_1]] w fun e w' => e = .returned (.bool r) ∧ Below w.heap.size w w' := by
  unfold impl_Cards_tellsAll.f at h
  by_cases c : 0 ≤ a0_0 ∧ a0_0 ≤ 1000000 ∧ tellsOk k a0_0 l0_1 = true
  case neg => rw [if_neg c] at h; cases h
  rw [if_pos c] at h
  have h := Option.some.inj h
  obtain ⟨m, rfl⟩ := Int.eq_ofNat_of_zero_le c.1
  rw [Int.toNat_natCast] at h
  have hmm := @run_makeMap Try.prog
  have law : Go.Maps.Keyed Try.prog 9 := Go.Maps.string_keyed Try.underlying9
  have HXC0 := Aside0.mk (blk_alloc (blk_new w (.cells #[.int .i64 m, .slice A0_1 l0_1.length c0_1] 46)) (.map #[] 0))
  have HB0 := Aside0.mk (below_alloc (below_alloc (Below.refl w.heap.size w) (.cells #[.int .i64 m, .slice A0_1 l0_1.length c0_1] 46)) (.map #[] 0))
  have HM0 : Aside0 (((w.alloc (.cells #[.int .i64 m, .slice A0_1 l0_1.length c0_1] 46)).alloc (.map #[] 0)).ownsMap Try.prog 9 (Go.plainElem (H := Unit) Try.prog 4) (w.heap.size + 1) 0 (.map [])) := ⟨by
    have := World.ownsMap_made (w.alloc (.cells #[.int .i64 m, .slice A0_1 l0_1.length c0_1] 46)) Try.prog 9 (Go.plainElem (H := Unit) Try.prog 4)
    simpa using this⟩
  have HR := Aside0.mk hr0_1
  have HH := Aside0.mk h
  have HK := Aside0.mk c
  have LAW := Aside0.mk law
  clear hr0_1 h c law
  go_enter Try.func87, Try.ntmps87
  go_wp2
  generalize ((w.alloc (.cells #[.int .i64 m, .slice A0_1 l0_1.length c0_1] 46)).alloc (.map #[] 0)) = w1 at *
  go_loopg [8] m (fun gg v8 wr => ∃ (x : Nat), v8 = .int .i64 x ∧ Aside0 (x ≤ m ∧ m - x ≤ gg) ∧ Aside0 (wr.heap[w.heap.size]? = some (.cells #[.int .i64 m, .slice A0_1 l0_1.length c0_1] 46 (0, 0))) ∧ Aside0 (wr.ownsMap Try.prog 9 (Go.plainElem (H := Unit) Try.prog 4) (w.heap.size + 1) x (tellsSet k m l0_1 x)) ∧ Aside0 (Below w.heap.size w wr))
  case atStart => exact ⟨0, rfl, ⟨by omega, by omega⟩, HXC0, HM0, HB0⟩
  case round =>
    obtain ⟨x, rfl, HQ, HXC, HM, HB⟩ := hrel
    have hc0 : wr.cell? ⟨w.heap.size, 0, none⟩ = some (.int .i64 m) := (blk_cell HXC.out 0).trans rfl
    have hc1 : wr.cell? ⟨w.heap.size, 1, none⟩ = some (.slice A0_1 l0_1.length c0_1) := (blk_cell HXC.out 1).trans rfl
    by_cases hlt : (x : Int) < (m : Int)
    · have hlt0 := decide_eq_true hlt
      have hltN : decide (x < m) = true := decide_eq_true (by omega)
      have hok := List.all_eq_true.1 HK.out.2.2 x (List.mem_range.2 (by omega))
      rw [Bool.and_eq_true] at hok
      obtain ⟨s, hs⟩ := Option.isSome_iff_exists.1 hok.1
      have es : tellsStr k m l0_1 x = s := by unfold tellsStr; rw [hs]; rfl
      have hsz := of_decide_eq_true hok.2
      rw [es] at hsz
      have HS := Aside0.mk hs
      have HE := Aside0.mk es
      have HX := Aside0.mk hlt
      have hkey := Go.WideMaps.keyOf_string_mk Try.underlying9 (show s.size ≤ maxLen by unfold maxLen; omega)
      have HKEY := Aside0.mk hkey
      have hw : wrap64 ((x : Int) + 1) = ((x + 1 : Nat) : Int) := by have := HK.out; unfold wrap64; omega
      have HW := Aside0.mk hw
      clear hok hs es hsz hlt hkey hw
      go_wp2_with (first
        | (go_at_call 131; refine (impl_Cards_answers.calls k m A0_1 c0_1 l0_1 x s _ (Kd.C_below HR.out HB.out) hc0_1 HS.out).mono ?_; rintro e w2 ⟨rfl, hb2⟩; have HB2 := Aside0.mk (below_step HB.out hb2); have HXC2 := Aside0.mk (blk_below HXC.out hb2); have HM2 := Aside0.mk (ownsMap_below HM.out hb2); clear hb2 hc0 hc1)
        | (at_mapUpdate; refine wpList_mapUpdate_own _ rfl _ _ _ 117 rfl 9 4 LAW.out Try.underlying117 (Go.plainElem (H := Unit) Try.prog 4) (w.heap.size + 1) x _ rfl HM2.out (by have := HK.out; have := HX.out; unfold maxLen; omega) _ _ _ rfl rfl HKEY.out _ [] (Go.plainElem_bool Try.underlying4 true) ?_; intro w3 hown3 hgrow3; have HM3 := Aside0.mk hown3; have HXC3 := Aside0.mk (blk_grown HXC2.out hgrow3 (by simp)); have HB3 := Aside0.mk (HB2.out.grown hgrow3 HB2.out.size (fun j hj => by cases hj; omega)); clear hown3 hgrow3))
      go_roundg (gk - 1)
      case measure => have := HQ.out; have := HX.out; omega
      case rel => exact ⟨x + 1, (by first | rfl | rw [HW.out]), ⟨by have := HX.out; omega, by have := HQ.out; have := HX.out; omega⟩, HXC3, ⟨by rw [tellsSet_succ, HE.out]; exact HM3.out⟩, HB3⟩
    · have e : x = m := by have := HQ.out; omega
      subst e
      have hlt0 := decide_eq_false hlt
      have hltN : decide (x < x) = false := decide_eq_false (by omega)
      have hh := HH.out
      go_wp2_with (at_len; refine wpList_len_own _ rfl _ 117 rfl 9 4 Try.underlying117 _ (w.heap.size + 1) x _ rfl HM.out ?_)
      go_ret
      exact ⟨rfl, HB.out⟩


/-! ### impl_NeedlessCards_1: function 86 -/
-- GIVEN loop.example/g01305/impl.NeedlessCards$1 raw=1
-- NEEDS (loop.example/g01305/impl.Cards).dropped ; (loop.example/g01305/impl.Cards).tellsAll
def needO (k : Nat) (n : Int) (l : List (List Int)) (x : Int) : Option Bool := (impl_Cards_dropped.f k n l x).bind fun r => impl_Cards_tellsAll.f k r.1 r.2
set_option maxHeartbeats 2000000 in
theorem needless_1 (k : Nat) (x n : Int) (l : List (List Int)) (gB : Nat) (A : Option Addr) (c : Nat) (t : Bool) (W : World) (hB : W.heap[gB]? = some (.cells #[.int .i64 n, .slice A l.length c] 46 (0, 0))) (hC : Kd.C (Kd.slice 3 (Kd.int .i64)) W A l.length l) (hc : l.length ≤ c) (ht : needO k n l x = some t) :
    Calls Try.prog 86 #[.int .i64 x, .pointer (some ⟨gB, 0, none⟩)] W fun e w' => e = .returned (.bool t) ∧ Below W.heap.size W w' := by
  obtain ⟨⟨r1, r2⟩, hd, ht⟩ := Option.bind_eq_some_iff.1 ht
  have hb0 : W.cell? ⟨gB, 0, none⟩ = some (.int .i64 n) := (blk_cell hB 0).trans rfl
  have hb1 : W.cell? ⟨gB, 1, none⟩ = some (.slice A l.length c) := (blk_cell hB 1).trans rfl
  have HD := Aside0.mk hd
  have HT := Aside0.mk ht
  have HC := Aside0.mk hC
  clear hd ht hC
  go_enter Try.func86, Try.ntmps86
  go_wp2_with (first
    | (go_at_call 80; refine (impl_Cards_dropped.calls k n A c l x r1 r2 _ HC.out hc HD.out).mono ?_; rintro e w1 ⟨v1, rfl, ho1, hb1_⟩; obtain ⟨A1, c1, rfl⟩ := Kd.S_slice ho1; have HO1 := Aside0.mk (Kd.S_reads' ho1); have HB1 := Aside0.mk hb1_; clear ho1 hb1_ hb0 hb1)
    | (go_at_call 87; refine (impl_Cards_tellsAll.calls k r1 A1 c1 r2 t _ HO1.out.2.2 HO1.out.2.1 HT.out).mono ?_; rintro e w2 ⟨rfl, hb2⟩; have HB2 := Aside0.mk (below_step HB1.out hb2); clear hb2))
  go_ret
  exact ⟨rfl, HB2.out⟩


/-! ### impl_NeedlessCards: function 42 -/
-- GIVEN loop.example/g01305/impl.NeedlessCards rounds=1 only=1
-- NEEDS loop.example/g01305/impl.AreCards ; loop.example/g01305/impl.cardOf ; loop.example/g01305/impl.NeedlessCards$1
def needP (k : Nat) (n : Int) (l : List (List Int)) (x : Int) : Bool := (needO k n l x).getD false
def impl_NeedlessCards.f (k : Nat) (n : Int) (l : List (List Int)) : Option (List Int × Bool) := (impl_AreCards.f k n l).bind fun b => if b = true then (if l.length ≤ 1000 ∧ ((List.range l.length).all fun (i : Nat) => (needO k n l (i : Int)).isSome) = true then some (selL (needP k n l) l.length, true) else none) else some ([], false)
set_option maxHeartbeats 8000000 in
set_option maxRecDepth 100000 in
theorem impl_NeedlessCards.calls (k : Nat) (a0_0 : Int) (A0_1 : Option Addr) (c0_1 : Nat) (l0_1 : List (List Int)) (r1 : List Int) (r2 : Bool) (w : World) (hr0_1 : Kd.C (Kd.slice 3 (Kd.int .i64)) w A0_1 l0_1.length l0_1) (hc0_1 : l0_1.length ≤ c0_1) (h : impl_NeedlessCards.f k a0_0 l0_1 = some (r1, r2)) :
    Calls Try.prog 42 #[.agg #[.int .i64 a0_0, .slice A0_1 l0_1.length c0_1]] w fun e w' => ∃ v0_ : Value, e = .returned (.tuple #[v0_, .bool r2]) ∧ Kd.R (Kd.int .i64) 3 w' w.heap.size (fun _ => True) v0_ r1 ∧ Below w.heap.size w w' := by
  have hmf : ∀ (fn : Fn) (first cap : Array Value) (w : World), (Instr.makeFunc fn first cap).run Try.prog w = .ok (.func fn first cap) w := fun _ _ _ _ => rfl
  unfold impl_NeedlessCards.f at h
  obtain ⟨b, hb, h⟩ := Option.bind_eq_some_iff.mp h
  have HB0 := Aside0.mk (below_alloc (Below.refl w.heap.size w) (.cells #[.int .i64 a0_0, .slice A0_1 l0_1.length c0_1] 46))
  have HXB0 := Aside0.mk (blk_new w (.cells #[.int .i64 a0_0, .slice A0_1 l0_1.length c0_1] 46))
  have HR := Aside0.mk hr0_1
  have HNB := Aside0.mk hb
  clear hr0_1 hb
  cases b with
  | false =>
    rw [if_neg (by decide)] at h
    simp only [Option.some.injEq, Prod.mk.injEq] at h
    obtain ⟨rfl, rfl⟩ := h
    go_enter Try.func42, Try.ntmps42
    go_wp2_with (go_at_call 74; refine (impl_AreCards.calls k a0_0 A0_1 c0_1 l0_1 false _ (Kd.C_below HR.out HB0.out) hc0_1 HNB.out).mono ?_; rintro e w1 ⟨rfl, hb1⟩; have HB1 := Aside0.mk (below_step HB0.out hb1); clear hb1)
    go_ret2
    exact ⟨_, rfl, Kd.R_nil _ _ _ _ _, HB1.out⟩
  | true =>
    rw [if_pos rfl] at h
    by_cases c : l0_1.length ≤ 1000 ∧ ((List.range l0_1.length).all fun (i : Nat) => (needO k a0_0 l0_1 (i : Int)).isSome) = true
    case neg => rw [if_neg c] at h; cases h
    rw [if_pos c] at h
    simp only [Option.some.injEq, Prod.mk.injEq] at h
    obtain ⟨rfl, rfl⟩ := h
    have HK := Aside0.mk c
    clear c
    have HPP : Aside0 (∀ W0, W0.heap[w.heap.size]? = some (.cells #[.int .i64 a0_0, .slice A0_1 l0_1.length c0_1] 46 (0, 0)) → Kd.C (Kd.slice 3 (Kd.int .i64)) W0 A0_1 l0_1.length l0_1 → ∀ (W : World) (x : Int), 0 ≤ x → x < l0_1.length → Below W0.heap.size W0 W → Calls Try.prog 86 (#[.int .i64 x] ++ #[.pointer (some ⟨w.heap.size, 0, none⟩)]) W fun e w' => e = .returned (.bool (needP k a0_0 l0_1 x)) ∧ Below W.heap.size W w') := ⟨fun W0 hb_ hC_ W x hx0 hx1 hbl => by
      have hs := List.all_eq_true.1 HK.out.2 x.toNat (List.mem_range.2 (by omega))
      rw [show ((x.toNat : Nat) : Int) = x by omega] at hs
      obtain ⟨t, ht⟩ := Option.isSome_iff_exists.1 hs
      have h := needless_1 k x a0_0 l0_1 w.heap.size A0_1 c0_1 t W (blk_below hb_ hbl) (Kd.C_below hC_ hbl) hc0_1 ht
      have e : needP k a0_0 l0_1 x = t := by unfold needP; rw [ht]; rfl
      rw [e]
      exact h⟩
    go_enter Try.func42, Try.ntmps42
    go_wp2_with (go_at_call 74; refine (impl_AreCards.calls k a0_0 A0_1 c0_1 l0_1 true _ (Kd.C_below HR.out HB0.out) hc0_1 HNB.out).mono ?_; rintro e w1 ⟨rfl, hb1⟩; have HB1 := Aside0.mk (below_step HB0.out hb1); have HXB1 := Aside0.mk (blk_below HXB0.out hb1); have hb1_ : w1.cell? ⟨w.heap.size, 1, none⟩ = some (.slice A0_1 l0_1.length c0_1) := (blk_cell HXB1.out 1).trans rfl; clear hb1; refine Aside0.out ?_)
    refine Aside0.mk ?_
    go_wp2_with (go_at_call 82; refine (cardOf_calls l0_1.length HK.out.1 (needP k a0_0 l0_1) 86 #[.pointer (some ⟨w.heap.size, 0, none⟩)] (enters_of Try.func86 (by kernel_rfl) rfl) _ (HPP.out _ HXB1.out (Kd.C_below HR.out HB1.out))).mono ?_; rintro e w2 ⟨v2, rfl, ho2, hb2⟩; have HO2 := Aside0.mk (Kd.R_lower ho2 HB1.out.size); have HB2 := Aside0.mk (below_step HB1.out hb2); clear ho2 hb2)
    go_ret2
    exact ⟨_, rfl, HO2.out, HB2.out⟩


/-! ### laws_FnExactNeedlessCards: function 8 -/
-- NEEDS loop.example/g01305/laws.szCards ; loop.example/g01305/laws.toCards ; loop.example/g01305/spec.NeedlessCards ; loop.example/g01305/impl.NeedlessCards ; loop.example/g01305/laws.eqCards ; loop.example/g01305/laws.markCards ; loop.example/g01305/laws.eqIntS ; loop.example/g01305/laws.markIntS ; loop.example/g01305/laws.heldIntS
-- USES lawiv
def laws_FnExactNeedlessCards.f (k : Nat) (n_a : Int) (l_a : List (List Int)) : Option Bool :=
  (laws_szCards.f k n_a l_a 1048576).bind fun t => if t < 0 then some true else
  (laws_toCards.f k n_a l_a).bind fun p => (spec_NeedlessCards.f k p.1 p.2).bind fun w => (impl_NeedlessCards.f k p.1 p.2).bind fun g =>
  (laws_eqIntS.f k g.1 w.1).bind fun e1 => (laws_eqCards.f k p.1 p.2 p.1 p.2).bind fun e2 => (laws_markCards.f k p.1 p.2 1).bind fun mp => (laws_markIntS.f k g.1 1).bind fun m => (laws_heldIntS.f k m.2 1).bind fun q =>
  if e1 = true ∧ e2 = true ∧ g.2 = w.2 ∧ 0 ≤ mp.1 ∧ 0 ≤ q ∧ q = m.1 then some true else none
set_option maxHeartbeats 8000000 in
set_option maxRecDepth 100000 in
theorem laws_FnExactNeedlessCards.calls (k : Nat) (n_a : Int) (A_a : Option Addr) (c_a : Nat) (l_a : List (List Int)) (r : Bool) (w : World) (hr_a : Kd.C (Kd.slice 3 (Kd.int .i64)) w A_a l_a.length l_a) (hc_a : l_a.length ≤ c_a) (h : laws_FnExactNeedlessCards.f k n_a l_a = some r) :
    Calls Try.prog 8 #[.agg #[.int .i64 n_a, .slice A_a l_a.length c_a]] w fun e w' => e = .returned (.bool r) ∧ Below w.heap.size w w' := by
  unfold laws_FnExactNeedlessCards.f at h
  obtain ⟨t, h0, h⟩ := Option.bind_eq_some_iff.1 h
  have HA_a := Aside0.mk hr_a
  have HC_a := Aside0.mk hc_a
  have H0 := Aside0.mk h0
  have HB := Aside0.mk (Below.refl w.heap.size w)
  clear hr_a hc_a h0
  by_cases ht : t < 0
  · rw [if_pos ht] at h
    obtain rfl := Option.some.inj h
    have htd := decide_eq_true ht
    clear h ht
    go_enter Try.func8, Try.ntmps8
    go_wp2_with (go_at_call 29; refine (laws_szCards.calls k n_a A_a c_a l_a 1048576 t _ (by repeat (first | (with_reducible exact (Kd.C_below HA_a.out HB.out)) | (with_reducible refine Kd.C_alloc ?_ _) | (with_reducible refine Kd.C_drewN ?_ _) | (with_reducible refine Kd.C_drew ?_))) HC_a.out H0.out).mono ?_; rintro e w1 ⟨rfl, hb⟩; (first | replace hb := hb.below | skip); have HE_ : Aside0 (Below w.heap.size w w1) := ⟨below_step (by repeat (first | (with_reducible exact Below.refl _ _) | (with_reducible refine below_alloc ?_ _) | (with_reducible refine pw_below_drewN ?_ _) | (with_reducible refine below_drew ?_))) hb⟩; have HB := Aside0.mk (below_step HB.out HE_.out); have HZ_1 := Aside0.mk HE_.out.size; have HX_0 : Aside0 (w1.heap[w.heap.size]? = some (.cells #[.int .i64 n_a, .slice A_a (l_a).length c_a] 44 (0, 0))) := ⟨blk_below (by repeat (first | (with_reducible exact blk_new _ _) | (with_reducible refine blk_alloc ?_ _) | (with_reducible refine blk_drewN ?_ _) | (with_reducible refine blk_drew ?_))) hb⟩; have HXL_0 := Aside0.mk (blk_lt HX_0.out); (try clear hc0_0); (try clear hc0_1); clear hb; have hc0_0 : w1.cell? ⟨w.heap.size, 0, none⟩ = some (.int .i64 n_a) := (blk_cell HX_0.out 0).trans rfl; have hc0_1 : w1.cell? ⟨w.heap.size, 1, none⟩ = some (.slice A_a (l_a).length c_a) := (blk_cell HX_0.out 1).trans rfl; refine Aside0.out ?_)
    refine Aside0.mk ?_
    go_wp2
    go_ret
    exact ⟨rfl, (by repeat (first | (with_reducible exact HB.out) | (with_reducible refine below_alloc ?_ _) | (with_reducible refine pw_below_drewN ?_ _) | (with_reducible refine below_drew ?_)))⟩
  · rw [if_neg ht] at h
    obtain ⟨⟨pn, pl⟩, h1, h⟩ := Option.bind_eq_some_iff.1 h
    obtain ⟨⟨wl, wb⟩, h2, h⟩ := Option.bind_eq_some_iff.1 h
    obtain ⟨⟨gl, gb⟩, h3, h⟩ := Option.bind_eq_some_iff.1 h
    obtain ⟨e1, h4, h⟩ := Option.bind_eq_some_iff.1 h
    obtain ⟨e2, h5, h⟩ := Option.bind_eq_some_iff.1 h
    obtain ⟨⟨mp, xl⟩, h6, h⟩ := Option.bind_eq_some_iff.1 h
    obtain ⟨⟨m, ml⟩, h7, h⟩ := Option.bind_eq_some_iff.1 h
    obtain ⟨q, h8, h⟩ := Option.bind_eq_some_iff.1 h
    by_cases hcd : e1 = true ∧ e2 = true ∧ gb = wb ∧ 0 ≤ mp ∧ 0 ≤ q ∧ q = m
    case neg => rw [if_neg hcd] at h; cases h
    rw [if_pos hcd] at h
    obtain rfl := Option.some.inj h
    obtain ⟨rfl, rfl, rfl, hmp, hq, rfl⟩ := hcd
    have hbb : (gb != gb) = false := by cases gb <;> rfl
    have hqq : (q != q) = false := bne_eq_false_iff_eq.mpr rfl
    have htd := decide_eq_false ht
    have hmpd : decide (mp < 0) = false := decide_eq_false (by omega)
    have hqd : decide (q < 0) = false := decide_eq_false (by omega)
    have H1 := Aside0.mk h1
    have H2 := Aside0.mk h2
    have H3 := Aside0.mk h3
    have H4 := Aside0.mk h4
    have H5 := Aside0.mk h5
    have H6 := Aside0.mk h6
    have H7 := Aside0.mk h7
    have H8 := Aside0.mk h8
    clear h h1 h2 h3 h4 h5 h6 h7 h8 ht hmp hq
    go_enter Try.func8, Try.ntmps8
    go_wp2_with (go_at_call 29; refine (laws_szCards.calls k n_a A_a c_a l_a 1048576 t _ (by repeat (first | (with_reducible exact (Kd.C_below HA_a.out HB.out)) | (with_reducible refine Kd.C_alloc ?_ _) | (with_reducible refine Kd.C_drewN ?_ _) | (with_reducible refine Kd.C_drew ?_))) HC_a.out H0.out).mono ?_; rintro e w1 ⟨rfl, hb⟩; (first | replace hb := hb.below | skip); have HE_ : Aside0 (Below w.heap.size w w1) := ⟨below_step (by repeat (first | (with_reducible exact Below.refl _ _) | (with_reducible refine below_alloc ?_ _) | (with_reducible refine pw_below_drewN ?_ _) | (with_reducible refine below_drew ?_))) hb⟩; have HB := Aside0.mk (below_step HB.out HE_.out); have HZ_1 := Aside0.mk HE_.out.size; have HX_0 : Aside0 (w1.heap[w.heap.size]? = some (.cells #[.int .i64 n_a, .slice A_a (l_a).length c_a] 44 (0, 0))) := ⟨blk_below (by repeat (first | (with_reducible exact blk_new _ _) | (with_reducible refine blk_alloc ?_ _) | (with_reducible refine blk_drewN ?_ _) | (with_reducible refine blk_drew ?_))) hb⟩; have HXL_0 := Aside0.mk (blk_lt HX_0.out); (try clear hc0_0); (try clear hc0_1); clear hb; have hc0_0 : w1.cell? ⟨w.heap.size, 0, none⟩ = some (.int .i64 n_a) := (blk_cell HX_0.out 0).trans rfl; have hc0_1 : w1.cell? ⟨w.heap.size, 1, none⟩ = some (.slice A_a (l_a).length c_a) := (blk_cell HX_0.out 1).trans rfl; refine Aside0.out ?_)
    refine Aside0.mk ?_
    go_wp2_with (go_at_call 31; refine (laws_toCards.calls k n_a A_a c_a l_a pn (pl) _ (by repeat (first | (with_reducible exact (Kd.C_below HA_a.out HB.out)) | (with_reducible refine Kd.C_alloc ?_ _) | (with_reducible refine Kd.C_drewN ?_ _) | (with_reducible refine Kd.C_drew ?_))) HC_a.out H1.out).mono ?_; rintro e w2 ⟨v_, rfl, ho, hb⟩; have HE_ : Aside0 (Below w1.heap.size w1 w2) := ⟨below_step (by repeat (first | (with_reducible exact Below.refl _ _) | (with_reducible refine below_alloc ?_ _) | (with_reducible refine pw_below_drewN ?_ _) | (with_reducible refine below_drew ?_))) hb⟩; obtain ⟨A_p1, c_p1, rfl⟩ := Kd.S_slice ho; have HW_p1 := Aside0.mk (S_iv ho (show Below w1.heap.size w1 _ from (by repeat (first | (with_reducible exact Below.refl _ _) | (with_reducible refine below_alloc ?_ _) | (with_reducible refine pw_below_drewN ?_ _) | (with_reducible refine below_drew ?_)))).size HB.out.size); have HB := Aside0.mk (below_step HB.out HE_.out); have HZ_2 := Aside0.mk HE_.out.size; have HX_0 := Aside0.mk (blk_below HX_0.out HE_.out); (try clear hc0_0); (try clear hc0_1); clear hb ho; have hc0_0 : w2.cell? ⟨w.heap.size, 0, none⟩ = some (.int .i64 n_a) := (blk_cell HX_0.out 0).trans rfl; have hc0_1 : w2.cell? ⟨w.heap.size, 1, none⟩ = some (.slice A_a (l_a).length c_a) := (blk_cell HX_0.out 1).trans rfl; refine Aside0.out ?_)
    refine Aside0.mk ?_
    go_wp2_with (go_at_call 41; refine (spec_NeedlessCards.calls k pn A_p1 c_p1 (pl) (wl) gb _ (by repeat (first | (with_reducible exact (Kd.S_reads' HW_p1.out).2.2) | (with_reducible refine Kd.C_alloc ?_ _) | (with_reducible refine Kd.C_drewN ?_ _) | (with_reducible refine Kd.C_drew ?_))) (Kd.S_reads' HW_p1.out).2.1 H2.out).mono ?_; rintro e w3 ⟨v_, rfl, ho, hb⟩; have HE_ : Aside0 (Below w2.heap.size w2 w3) := ⟨below_step (by repeat (first | (with_reducible exact Below.refl _ _) | (with_reducible refine below_alloc ?_ _) | (with_reducible refine pw_below_drewN ?_ _) | (with_reducible refine below_drew ?_))) hb⟩; obtain ⟨A_w, c_w, rfl⟩ := Kd.R_slice ho; have HW_w := Aside0.mk (R_iv ho (show Below w2.heap.size w2 _ from (by repeat (first | (with_reducible exact Below.refl _ _) | (with_reducible refine below_alloc ?_ _) | (with_reducible refine pw_below_drewN ?_ _) | (with_reducible refine below_drew ?_)))).size HB.out.size); have HB := Aside0.mk (below_step HB.out HE_.out); have HZ_3 := Aside0.mk HE_.out.size; have HW_p1 := Aside0.mk (Kd.S_below HW_p1.out HE_.out); have HX_0 := Aside0.mk (blk_below HX_0.out HE_.out); (try clear hc0_0); (try clear hc0_1); clear hb ho; have hc0_0 : w3.cell? ⟨w.heap.size, 0, none⟩ = some (.int .i64 n_a) := (blk_cell HX_0.out 0).trans rfl; have hc0_1 : w3.cell? ⟨w.heap.size, 1, none⟩ = some (.slice A_a (l_a).length c_a) := (blk_cell HX_0.out 1).trans rfl; refine Aside0.out ?_)
    refine Aside0.mk ?_
    go_wp2_with (go_at_call 31; refine (laws_toCards.calls k n_a A_a c_a l_a pn (pl) _ (by repeat (first | (with_reducible exact (Kd.C_below HA_a.out HB.out)) | (with_reducible refine Kd.C_alloc ?_ _) | (with_reducible refine Kd.C_drewN ?_ _) | (with_reducible refine Kd.C_drew ?_))) HC_a.out H1.out).mono ?_; rintro e w4 ⟨v_, rfl, ho, hb⟩; have HE_ : Aside0 (Below w3.heap.size w3 w4) := ⟨below_step (by repeat (first | (with_reducible exact Below.refl _ _) | (with_reducible refine below_alloc ?_ _) | (with_reducible refine pw_below_drewN ?_ _) | (with_reducible refine below_drew ?_))) hb⟩; obtain ⟨A_x, c_x, rfl⟩ := Kd.S_slice ho; have HW_x := Aside0.mk (S_iv ho (show Below w3.heap.size w3 _ from (by repeat (first | (with_reducible exact Below.refl _ _) | (with_reducible refine below_alloc ?_ _) | (with_reducible refine pw_below_drewN ?_ _) | (with_reducible refine below_drew ?_)))).size HB.out.size); have HB := Aside0.mk (below_step HB.out HE_.out); have HZ_4 := Aside0.mk HE_.out.size; have HW_p1 := Aside0.mk (Kd.S_below HW_p1.out HE_.out); have HW_w := Aside0.mk (Kd.R_below HW_w.out HE_.out); have HX_0 := Aside0.mk (blk_below HX_0.out HE_.out); (try clear hc0_0); (try clear hc0_1); clear hb ho; have hc0_0 : w4.cell? ⟨w.heap.size, 0, none⟩ = some (.int .i64 n_a) := (blk_cell HX_0.out 0).trans rfl; have hc0_1 : w4.cell? ⟨w.heap.size, 1, none⟩ = some (.slice A_a (l_a).length c_a) := (blk_cell HX_0.out 1).trans rfl; refine Aside0.out ?_)
    refine Aside0.mk ?_
    have hca0_0 : (w4.alloc (.cells #[.int .i64 pn, .slice A_x (pl).length c_x] 46)).cell? ⟨w.heap.size, 0, none⟩ = some (.int .i64 n_a) := (blk_cell (blk_alloc HX_0.out _) 0).trans rfl
    have hca0_1 : (w4.alloc (.cells #[.int .i64 pn, .slice A_x (pl).length c_x] 46)).cell? ⟨w.heap.size, 1, none⟩ = some (.slice A_a (l_a).length c_a) := (blk_cell (blk_alloc HX_0.out _) 1).trans rfl
    have hcn_0 : (w4.alloc (.cells #[.int .i64 pn, .slice A_x (pl).length c_x] 46)).cell? ⟨w4.heap.size, 0, none⟩ = some (.int .i64 pn) := (blk_cell (blk_new _ _) 0).trans rfl
    have hcn_1 : (w4.alloc (.cells #[.int .i64 pn, .slice A_x (pl).length c_x] 46)).cell? ⟨w4.heap.size, 1, none⟩ = some (.slice A_x (pl).length c_x) := (blk_cell (blk_new _ _) 1).trans rfl
    go_wp2_with (go_at_call 42; refine (impl_NeedlessCards.calls k pn A_x c_x (pl) (gl) gb _ (by repeat (first | (with_reducible exact (Kd.S_reads' HW_x.out).2.2) | (with_reducible refine Kd.C_alloc ?_ _) | (with_reducible refine Kd.C_drewN ?_ _) | (with_reducible refine Kd.C_drew ?_))) (Kd.S_reads' HW_x.out).2.1 H3.out).mono ?_; rintro e w5 ⟨v_, rfl, ho, hb⟩; have HE_ : Aside0 (Below w4.heap.size w4 w5) := ⟨below_step (by repeat (first | (with_reducible exact Below.refl _ _) | (with_reducible refine below_alloc ?_ _) | (with_reducible refine pw_below_drewN ?_ _) | (with_reducible refine below_drew ?_))) hb⟩; obtain ⟨A_g, c_g, rfl⟩ := Kd.R_slice ho; have HW_g := Aside0.mk (R_iv (b := w4.heap.size + 1) ho (blk_lt (g := w4.heap.size) (o := .cells #[.int .i64 pn, .slice A_x (pl).length c_x] 46 (0, 0)) (by repeat (first | (with_reducible exact blk_new _ _) | (with_reducible refine blk_alloc ?_ _) | (with_reducible refine blk_drewN ?_ _) | (with_reducible refine blk_drew ?_)))) (Nat.le_succ_of_le HB.out.size)); have HB := Aside0.mk (below_step HB.out HE_.out); have HZ_5 := Aside0.mk HE_.out.size; have HW_p1 := Aside0.mk (Kd.S_below HW_p1.out HE_.out); have HW_w := Aside0.mk (Kd.R_below HW_w.out HE_.out); have HW_x := Aside0.mk (Kd.S_below HW_x.out HE_.out); have HX_0 := Aside0.mk (blk_below HX_0.out HE_.out); have HX_1 : Aside0 (w5.heap[w4.heap.size]? = some (.cells #[.int .i64 pn, .slice A_x (pl).length c_x] 46 (0, 0))) := ⟨blk_below (by repeat (first | (with_reducible exact blk_new _ _) | (with_reducible refine blk_alloc ?_ _) | (with_reducible refine blk_drewN ?_ _) | (with_reducible refine blk_drew ?_))) hb⟩; have HXL_1 := Aside0.mk (blk_lt HX_1.out); (try clear hc0_0); (try clear hc0_1); (try clear hc1_0); (try clear hc1_1); clear hca0_0; clear hca0_1; clear hcn_0; clear hcn_1; clear hb ho; have hc0_0 : w5.cell? ⟨w.heap.size, 0, none⟩ = some (.int .i64 n_a) := (blk_cell HX_0.out 0).trans rfl; have hc0_1 : w5.cell? ⟨w.heap.size, 1, none⟩ = some (.slice A_a (l_a).length c_a) := (blk_cell HX_0.out 1).trans rfl; have hc1_0 : w5.cell? ⟨w4.heap.size, 0, none⟩ = some (.int .i64 pn) := (blk_cell HX_1.out 0).trans rfl; have hc1_1 : w5.cell? ⟨w4.heap.size, 1, none⟩ = some (.slice A_x (pl).length c_x) := (blk_cell HX_1.out 1).trans rfl; refine Aside0.out ?_)
    refine Aside0.mk ?_
    go_wp2_with (go_at_call 19; refine (laws_eqIntS.calls k A_g c_g (gl) A_w c_w (wl) true _ (by repeat (first | (with_reducible exact (Kd.R_reads' HW_g.out).2.2) | (with_reducible refine Kd.C_alloc ?_ _) | (with_reducible refine Kd.C_drewN ?_ _) | (with_reducible refine Kd.C_drew ?_))) (Kd.R_reads' HW_g.out).2.1 (by repeat (first | (with_reducible exact (Kd.R_reads' HW_w.out).2.2) | (with_reducible refine Kd.C_alloc ?_ _) | (with_reducible refine Kd.C_drewN ?_ _) | (with_reducible refine Kd.C_drew ?_))) (Kd.R_reads' HW_w.out).2.1 H4.out).mono ?_; rintro e w6 ⟨rfl, hb⟩; (first | replace hb := hb.below | skip); have HE_ : Aside0 (Below w5.heap.size w5 w6) := ⟨below_step (by repeat (first | (with_reducible exact Below.refl _ _) | (with_reducible refine below_alloc ?_ _) | (with_reducible refine pw_below_drewN ?_ _) | (with_reducible refine below_drew ?_))) hb⟩; have HB := Aside0.mk (below_step HB.out HE_.out); have HZ_6 := Aside0.mk HE_.out.size; have HW_p1 := Aside0.mk (Kd.S_below HW_p1.out HE_.out); have HW_w := Aside0.mk (Kd.R_below HW_w.out HE_.out); have HW_x := Aside0.mk (Kd.S_below HW_x.out HE_.out); have HW_g := Aside0.mk (Kd.R_below HW_g.out HE_.out); have HX_0 := Aside0.mk (blk_below HX_0.out HE_.out); have HX_1 := Aside0.mk (blk_below HX_1.out HE_.out); (try clear hc0_0); (try clear hc0_1); (try clear hc1_0); (try clear hc1_1); clear hb; have hc0_0 : w6.cell? ⟨w.heap.size, 0, none⟩ = some (.int .i64 n_a) := (blk_cell HX_0.out 0).trans rfl; have hc0_1 : w6.cell? ⟨w.heap.size, 1, none⟩ = some (.slice A_a (l_a).length c_a) := (blk_cell HX_0.out 1).trans rfl; have hc1_0 : w6.cell? ⟨w4.heap.size, 0, none⟩ = some (.int .i64 pn) := (blk_cell HX_1.out 0).trans rfl; have hc1_1 : w6.cell? ⟨w4.heap.size, 1, none⟩ = some (.slice A_x (pl).length c_x) := (blk_cell HX_1.out 1).trans rfl; refine Aside0.out ?_)
    refine Aside0.mk ?_
    go_wp2_with fail
    go_region_held_law (fun w' => w'.cell? ⟨w.heap.size, 0, none⟩ = some (.int .i64 n_a) ∧ w'.cell? ⟨w.heap.size, 1, none⟩ = some (.slice A_a (l_a).length c_a) ∧ w'.cell? ⟨w4.heap.size, 0, none⟩ = some (.int .i64 pn) ∧ w'.cell? ⟨w4.heap.size, 1, none⟩ = some (.slice A_x (pl).length c_x))
      (first | exact ⟨hc0_0, hc0_1, hc1_0, hc1_1⟩ | go_keep)
      (first | (go_at_call 31; refine (laws_toCards.calls k n_a A_a c_a l_a pn (pl) _ (by repeat (first | (with_reducible exact (Kd.C_below HA_a.out HB.out)) | (with_reducible refine Kd.C_alloc ?_ _) | (with_reducible refine Kd.C_drewN ?_ _) | (with_reducible refine Kd.C_drew ?_))) HC_a.out H1.out).mono ?_; rintro e w7 ⟨v_, rfl, ho, hb⟩; have HE_ : Aside0 (Below w6.heap.size w6 w7) := ⟨below_step (by repeat (first | (with_reducible exact Below.refl _ _) | (with_reducible refine below_alloc ?_ _) | (with_reducible refine pw_below_drewN ?_ _) | (with_reducible refine below_drew ?_))) hb⟩; obtain ⟨A_p2, c_p2, rfl⟩ := Kd.S_slice ho; have HW_p2 := Aside0.mk (S_iv ho (show Below w6.heap.size w6 _ from (by repeat (first | (with_reducible exact Below.refl _ _) | (with_reducible refine below_alloc ?_ _) | (with_reducible refine pw_below_drewN ?_ _) | (with_reducible refine below_drew ?_)))).size HB.out.size); have HB := Aside0.mk (below_step HB.out HE_.out); have HZ_7 := Aside0.mk HE_.out.size; have HW_p1 := Aside0.mk (Kd.S_below HW_p1.out HE_.out); have HW_w := Aside0.mk (Kd.R_below HW_w.out HE_.out); have HW_x := Aside0.mk (Kd.S_below HW_x.out HE_.out); have HW_g := Aside0.mk (Kd.R_below HW_g.out HE_.out); have HX_0 := Aside0.mk (blk_below HX_0.out HE_.out); have HX_1 := Aside0.mk (blk_below HX_1.out HE_.out); (try clear hc0_0); (try clear hc0_1); (try clear hc1_0); (try clear hc1_1); clear hb ho; have hc0_0 : w7.cell? ⟨w.heap.size, 0, none⟩ = some (.int .i64 n_a) := (blk_cell HX_0.out 0).trans rfl; have hc0_1 : w7.cell? ⟨w.heap.size, 1, none⟩ = some (.slice A_a (l_a).length c_a) := (blk_cell HX_0.out 1).trans rfl; have hc1_0 : w7.cell? ⟨w4.heap.size, 0, none⟩ = some (.int .i64 pn) := (blk_cell HX_1.out 0).trans rfl; have hc1_1 : w7.cell? ⟨w4.heap.size, 1, none⟩ = some (.slice A_x (pl).length c_x) := (blk_cell HX_1.out 1).trans rfl) | (go_at_call 34; refine (laws_eqCards.calls k pn A_x c_x (pl) pn A_p2 c_p2 (pl) true _ (by repeat (first | (with_reducible exact (Kd.S_reads' HW_x.out).2.2) | (with_reducible refine Kd.C_alloc ?_ _) | (with_reducible refine Kd.C_drewN ?_ _) | (with_reducible refine Kd.C_drew ?_))) (Kd.S_reads' HW_x.out).2.1 (by repeat (first | (with_reducible exact (Kd.S_reads' HW_p2.out).2.2) | (with_reducible refine Kd.C_alloc ?_ _) | (with_reducible refine Kd.C_drewN ?_ _) | (with_reducible refine Kd.C_drew ?_))) (Kd.S_reads' HW_p2.out).2.1 H5.out).mono ?_; rintro e w8 ⟨rfl, hb⟩; (first | replace hb := hb.below | skip); have HE_ : Aside0 (Below w7.heap.size w7 w8) := ⟨below_step (by repeat (first | (with_reducible exact Below.refl _ _) | (with_reducible refine below_alloc ?_ _) | (with_reducible refine pw_below_drewN ?_ _) | (with_reducible refine below_drew ?_))) hb⟩; have HB := Aside0.mk (below_step HB.out HE_.out); have HZ_8 := Aside0.mk HE_.out.size; have HW_p1 := Aside0.mk (Kd.S_below HW_p1.out HE_.out); have HW_w := Aside0.mk (Kd.R_below HW_w.out HE_.out); have HW_x := Aside0.mk (Kd.S_below HW_x.out HE_.out); have HW_g := Aside0.mk (Kd.R_below HW_g.out HE_.out); have HW_p2 := Aside0.mk (Kd.S_below HW_p2.out HE_.out); have HX_0 := Aside0.mk (blk_below HX_0.out HE_.out); have HX_1 := Aside0.mk (blk_below HX_1.out HE_.out); (try clear hc0_0); (try clear hc0_1); (try clear hc1_0); (try clear hc1_1); clear hb; have hc0_0 : w8.cell? ⟨w.heap.size, 0, none⟩ = some (.int .i64 n_a) := (blk_cell HX_0.out 0).trans rfl; have hc0_1 : w8.cell? ⟨w.heap.size, 1, none⟩ = some (.slice A_a (l_a).length c_a) := (blk_cell HX_0.out 1).trans rfl; have hc1_0 : w8.cell? ⟨w4.heap.size, 0, none⟩ = some (.int .i64 pn) := (blk_cell HX_1.out 0).trans rfl; have hc1_1 : w8.cell? ⟨w4.heap.size, 1, none⟩ = some (.slice A_x (pl).length c_x) := (blk_cell HX_1.out 1).trans rfl))
    go_wp2_with (go_at_call 35; refine (laws_markCards.calls k pn (IV w3.heap.size w4.heap.size) (.slice A_x (pl).length c_x) (pl) 1 mp (xl) w _ (by repeat (first | (with_reducible exact HB.out) | (with_reducible refine below_alloc ?_ _) | (with_reducible refine pw_below_drewN ?_ _) | (with_reducible refine below_drew ?_))) (by repeat (first | (with_reducible exact HW_x.out) | (with_reducible refine Kd.S_alloc ?_ _) | (with_reducible refine Kd.S_drewN ?_ _) | (with_reducible refine Kd.S_drew ?_))) H6.out).mono ?_; rintro e w9 ⟨rfl, ho, hb, hk⟩; have HE_ := Aside0.mk (show w8.heap.size ≤ w9.heap.size from Nat.le_trans (show Below w8.heap.size w8 _ from (by repeat (first | (with_reducible exact Below.refl _ _) | (with_reducible refine below_alloc ?_ _) | (with_reducible refine pw_below_drewN ?_ _) | (with_reducible refine below_drew ?_)))).size hk.1); have HW_p1 := Aside0.mk (S_ivk (by repeat (first | (with_reducible exact HW_p1.out) | (with_reducible refine Kd.S_alloc ?_ _) | (with_reducible refine Kd.S_drewN ?_ _) | (with_reducible refine Kd.S_drew ?_))) hk (by have := HZ_1.out; have := HZ_2.out; have := HZ_3.out; have := HZ_4.out; have := HZ_5.out; have := HZ_6.out; have := HZ_7.out; have := HZ_8.out; have := HXL_0.out; have := HXL_1.out; omega)); have HW_w := Aside0.mk (R_ivk (by repeat (first | (with_reducible exact HW_w.out) | (with_reducible refine Kd.R_alloc ?_ _) | (with_reducible refine Kd.R_drewN ?_ _) | (with_reducible refine Kd.R_drew ?_))) hk (by have := HZ_1.out; have := HZ_2.out; have := HZ_3.out; have := HZ_4.out; have := HZ_5.out; have := HZ_6.out; have := HZ_7.out; have := HZ_8.out; have := HXL_0.out; have := HXL_1.out; omega)); have HW_g := Aside0.mk (R_ivk (by repeat (first | (with_reducible exact HW_g.out) | (with_reducible refine Kd.R_alloc ?_ _) | (with_reducible refine Kd.R_drewN ?_ _) | (with_reducible refine Kd.R_drew ?_))) hk (by have := HZ_1.out; have := HZ_2.out; have := HZ_3.out; have := HZ_4.out; have := HZ_5.out; have := HZ_6.out; have := HZ_7.out; have := HZ_8.out; have := HXL_0.out; have := HXL_1.out; omega)); have HW_p2 := Aside0.mk (S_ivk (by repeat (first | (with_reducible exact HW_p2.out) | (with_reducible refine Kd.S_alloc ?_ _) | (with_reducible refine Kd.S_drewN ?_ _) | (with_reducible refine Kd.S_drew ?_))) hk (by have := HZ_1.out; have := HZ_2.out; have := HZ_3.out; have := HZ_4.out; have := HZ_5.out; have := HZ_6.out; have := HZ_7.out; have := HZ_8.out; have := HXL_0.out; have := HXL_1.out; omega)); have HX_0 := Aside0.mk (X_ivk (by repeat (first | (with_reducible exact HX_0.out) | (with_reducible refine blk_alloc ?_ _) | (with_reducible refine blk_drewN ?_ _) | (with_reducible refine blk_drew ?_))) hk (by have := HZ_1.out; have := HZ_2.out; have := HZ_3.out; have := HZ_4.out; have := HZ_5.out; have := HZ_6.out; have := HZ_7.out; have := HZ_8.out; have := HXL_0.out; have := HXL_1.out; have := HXL_0.out; omega)); have HX_1 := Aside0.mk (X_ivk (by repeat (first | (with_reducible exact HX_1.out) | (with_reducible refine blk_alloc ?_ _) | (with_reducible refine blk_drewN ?_ _) | (with_reducible refine blk_drew ?_))) hk (by have := HZ_1.out; have := HZ_2.out; have := HZ_3.out; have := HZ_4.out; have := HZ_5.out; have := HZ_6.out; have := HZ_7.out; have := HZ_8.out; have := HXL_0.out; have := HXL_1.out; have := HXL_1.out; omega)); have HB := Aside0.mk hb; have HZ_9 := Aside0.mk HE_.out; (try clear hc0_0); (try clear hc0_1); (try clear hc1_0); (try clear hc1_1); clear hb ho hk; have hc0_0 : w9.cell? ⟨w.heap.size, 0, none⟩ = some (.int .i64 n_a) := (blk_cell HX_0.out 0).trans rfl; have hc0_1 : w9.cell? ⟨w.heap.size, 1, none⟩ = some (.slice A_a (l_a).length c_a) := (blk_cell HX_0.out 1).trans rfl; have hc1_0 : w9.cell? ⟨w4.heap.size, 0, none⟩ = some (.int .i64 pn) := (blk_cell HX_1.out 0).trans rfl; have hc1_1 : w9.cell? ⟨w4.heap.size, 1, none⟩ = some (.slice A_x (pl).length c_x) := (blk_cell HX_1.out 1).trans rfl; refine Aside0.out ?_)
    refine Aside0.mk ?_
    go_wp2_with ((try (refine gate_guard (by rfl) ?_; dsimp only)); go_at_call 19; refine (laws_eqIntS.calls k A_g c_g (gl) A_w c_w (wl) true _ (by repeat (first | (with_reducible exact (Kd.R_reads' HW_g.out).2.2) | (with_reducible refine Kd.C_alloc ?_ _) | (with_reducible refine Kd.C_drewN ?_ _) | (with_reducible refine Kd.C_drew ?_))) (Kd.R_reads' HW_g.out).2.1 (by repeat (first | (with_reducible exact (Kd.R_reads' HW_w.out).2.2) | (with_reducible refine Kd.C_alloc ?_ _) | (with_reducible refine Kd.C_drewN ?_ _) | (with_reducible refine Kd.C_drew ?_))) (Kd.R_reads' HW_w.out).2.1 H4.out).mono ?_; rintro e w10 ⟨rfl, hb⟩; (first | replace hb := hb.below | skip); have HE_ : Aside0 (Below w9.heap.size w9 w10) := ⟨below_step (by repeat (first | (with_reducible exact Below.refl _ _) | (with_reducible refine below_alloc ?_ _) | (with_reducible refine pw_below_drewN ?_ _) | (with_reducible refine below_drew ?_))) hb⟩; have HB := Aside0.mk (below_step HB.out HE_.out); have HZ_10 := Aside0.mk HE_.out.size; have HW_p1 := Aside0.mk (Kd.S_below HW_p1.out HE_.out); have HW_w := Aside0.mk (Kd.R_below HW_w.out HE_.out); have HW_g := Aside0.mk (Kd.R_below HW_g.out HE_.out); have HW_p2 := Aside0.mk (Kd.S_below HW_p2.out HE_.out); have HX_0 := Aside0.mk (blk_below HX_0.out HE_.out); have HX_1 := Aside0.mk (blk_below HX_1.out HE_.out); (try clear hc0_0); (try clear hc0_1); (try clear hc1_0); (try clear hc1_1); clear hb; have hc0_0 : w10.cell? ⟨w.heap.size, 0, none⟩ = some (.int .i64 n_a) := (blk_cell HX_0.out 0).trans rfl; have hc0_1 : w10.cell? ⟨w.heap.size, 1, none⟩ = some (.slice A_a (l_a).length c_a) := (blk_cell HX_0.out 1).trans rfl; have hc1_0 : w10.cell? ⟨w4.heap.size, 0, none⟩ = some (.int .i64 pn) := (blk_cell HX_1.out 0).trans rfl; have hc1_1 : w10.cell? ⟨w4.heap.size, 1, none⟩ = some (.slice A_x (pl).length c_x) := (blk_cell HX_1.out 1).trans rfl; refine Aside0.out ?_)
    refine Aside0.mk ?_
    go_wp2_with (go_at_call 22; refine (laws_markIntS.calls k (IV (w4.heap.size + 1) w5.heap.size) (.slice A_g (gl).length c_g) (gl) 1 q (ml) w _ (by repeat (first | (with_reducible exact HB.out) | (with_reducible refine below_alloc ?_ _) | (with_reducible refine pw_below_drewN ?_ _) | (with_reducible refine below_drew ?_))) (by repeat (first | (with_reducible exact HW_g.out) | (with_reducible refine Kd.R_alloc ?_ _) | (with_reducible refine Kd.R_drewN ?_ _) | (with_reducible refine Kd.R_drew ?_))) H7.out).mono ?_; rintro e w11 ⟨rfl, ho, hb, hk⟩; have HE_ := Aside0.mk (show w10.heap.size ≤ w11.heap.size from Nat.le_trans (show Below w10.heap.size w10 _ from (by repeat (first | (with_reducible exact Below.refl _ _) | (with_reducible refine below_alloc ?_ _) | (with_reducible refine pw_below_drewN ?_ _) | (with_reducible refine below_drew ?_)))).size hk.1); have HW_g := Aside0.mk (R_ivm ho (Nat.le_trans (show (w4.heap.size + 1) ≤ w10.heap.size by have := HZ_1.out; have := HZ_2.out; have := HZ_3.out; have := HZ_4.out; have := HZ_5.out; have := HZ_6.out; have := HZ_7.out; have := HZ_8.out; have := HZ_9.out; have := HZ_10.out; have := HXL_0.out; have := HXL_1.out; omega) (show Below w10.heap.size w10 _ from (by repeat (first | (with_reducible exact Below.refl _ _) | (with_reducible refine below_alloc ?_ _) | (with_reducible refine pw_below_drewN ?_ _) | (with_reducible refine below_drew ?_)))).size)); have HW_p1 := Aside0.mk (S_ivk (by repeat (first | (with_reducible exact HW_p1.out) | (with_reducible refine Kd.S_alloc ?_ _) | (with_reducible refine Kd.S_drewN ?_ _) | (with_reducible refine Kd.S_drew ?_))) hk (by have := HZ_1.out; have := HZ_2.out; have := HZ_3.out; have := HZ_4.out; have := HZ_5.out; have := HZ_6.out; have := HZ_7.out; have := HZ_8.out; have := HZ_9.out; have := HZ_10.out; have := HXL_0.out; have := HXL_1.out; omega)); have HW_w := Aside0.mk (R_ivk (by repeat (first | (with_reducible exact HW_w.out) | (with_reducible refine Kd.R_alloc ?_ _) | (with_reducible refine Kd.R_drewN ?_ _) | (with_reducible refine Kd.R_drew ?_))) hk (by have := HZ_1.out; have := HZ_2.out; have := HZ_3.out; have := HZ_4.out; have := HZ_5.out; have := HZ_6.out; have := HZ_7.out; have := HZ_8.out; have := HZ_9.out; have := HZ_10.out; have := HXL_0.out; have := HXL_1.out; omega)); have HW_p2 := Aside0.mk (S_ivk (by repeat (first | (with_reducible exact HW_p2.out) | (with_reducible refine Kd.S_alloc ?_ _) | (with_reducible refine Kd.S_drewN ?_ _) | (with_reducible refine Kd.S_drew ?_))) hk (by have := HZ_1.out; have := HZ_2.out; have := HZ_3.out; have := HZ_4.out; have := HZ_5.out; have := HZ_6.out; have := HZ_7.out; have := HZ_8.out; have := HZ_9.out; have := HZ_10.out; have := HXL_0.out; have := HXL_1.out; omega)); have HX_0 := Aside0.mk (X_ivk (by repeat (first | (with_reducible exact HX_0.out) | (with_reducible refine blk_alloc ?_ _) | (with_reducible refine blk_drewN ?_ _) | (with_reducible refine blk_drew ?_))) hk (by have := HZ_1.out; have := HZ_2.out; have := HZ_3.out; have := HZ_4.out; have := HZ_5.out; have := HZ_6.out; have := HZ_7.out; have := HZ_8.out; have := HZ_9.out; have := HZ_10.out; have := HXL_0.out; have := HXL_1.out; have := HXL_0.out; omega)); have HX_1 := Aside0.mk (X_ivk (by repeat (first | (with_reducible exact HX_1.out) | (with_reducible refine blk_alloc ?_ _) | (with_reducible refine blk_drewN ?_ _) | (with_reducible refine blk_drew ?_))) hk (by have := HZ_1.out; have := HZ_2.out; have := HZ_3.out; have := HZ_4.out; have := HZ_5.out; have := HZ_6.out; have := HZ_7.out; have := HZ_8.out; have := HZ_9.out; have := HZ_10.out; have := HXL_0.out; have := HXL_1.out; have := HXL_1.out; omega)); have HB := Aside0.mk hb; have HZ_11 := Aside0.mk HE_.out; (try clear hc0_0); (try clear hc0_1); (try clear hc1_0); (try clear hc1_1); clear hb ho hk; have hlen_g := (Kd.R_reads' HW_g.out).1; rw [hlen_g] at HW_g; rw [hlen_g]; clear hlen_g; have hc0_0 : w11.cell? ⟨w.heap.size, 0, none⟩ = some (.int .i64 n_a) := (blk_cell HX_0.out 0).trans rfl; have hc0_1 : w11.cell? ⟨w.heap.size, 1, none⟩ = some (.slice A_a (l_a).length c_a) := (blk_cell HX_0.out 1).trans rfl; have hc1_0 : w11.cell? ⟨w4.heap.size, 0, none⟩ = some (.int .i64 pn) := (blk_cell HX_1.out 0).trans rfl; have hc1_1 : w11.cell? ⟨w4.heap.size, 1, none⟩ = some (.slice A_x (pl).length c_x) := (blk_cell HX_1.out 1).trans rfl; refine Aside0.out ?_)
    refine Aside0.mk ?_
    go_wp2_with (go_at_call 23; refine (laws_heldIntS.calls k A_g c_g (ml) 1 q _ (by repeat (first | (with_reducible exact (Kd.R_reads' HW_g.out).2.2) | (with_reducible refine Kd.C_alloc ?_ _) | (with_reducible refine Kd.C_drewN ?_ _) | (with_reducible refine Kd.C_drew ?_))) (Kd.R_reads' HW_g.out).2.1 H8.out).mono ?_; rintro e w12 ⟨rfl, hb⟩; (first | replace hb := hb.below | skip); have HE_ : Aside0 (Below w11.heap.size w11 w12) := ⟨below_step (by repeat (first | (with_reducible exact Below.refl _ _) | (with_reducible refine below_alloc ?_ _) | (with_reducible refine pw_below_drewN ?_ _) | (with_reducible refine below_drew ?_))) hb⟩; have HB := Aside0.mk (below_step HB.out HE_.out); have HZ_12 := Aside0.mk HE_.out.size; have HW_p1 := Aside0.mk (Kd.S_below HW_p1.out HE_.out); have HW_w := Aside0.mk (Kd.R_below HW_w.out HE_.out); have HW_g := Aside0.mk (Kd.R_below HW_g.out HE_.out); have HW_p2 := Aside0.mk (Kd.S_below HW_p2.out HE_.out); have HX_0 := Aside0.mk (blk_below HX_0.out HE_.out); have HX_1 := Aside0.mk (blk_below HX_1.out HE_.out); (try clear hc0_0); (try clear hc0_1); (try clear hc1_0); (try clear hc1_1); clear hb; have hc0_0 : w12.cell? ⟨w.heap.size, 0, none⟩ = some (.int .i64 n_a) := (blk_cell HX_0.out 0).trans rfl; have hc0_1 : w12.cell? ⟨w.heap.size, 1, none⟩ = some (.slice A_a (l_a).length c_a) := (blk_cell HX_0.out 1).trans rfl; have hc1_0 : w12.cell? ⟨w4.heap.size, 0, none⟩ = some (.int .i64 pn) := (blk_cell HX_1.out 0).trans rfl; have hc1_1 : w12.cell? ⟨w4.heap.size, 1, none⟩ = some (.slice A_x (pl).length c_x) := (blk_cell HX_1.out 1).trans rfl; refine Aside0.out ?_)
    refine Aside0.mk ?_
    go_wp2_with (go_at_call 31; refine (laws_toCards.calls k n_a A_a c_a l_a pn (pl) _ (by repeat (first | (with_reducible exact (Kd.C_below HA_a.out HB.out)) | (with_reducible refine Kd.C_alloc ?_ _) | (with_reducible refine Kd.C_drewN ?_ _) | (with_reducible refine Kd.C_drew ?_))) HC_a.out H1.out).mono ?_; rintro e w13 ⟨v_, rfl, ho, hb⟩; have HE_ : Aside0 (Below w12.heap.size w12 w13) := ⟨below_step (by repeat (first | (with_reducible exact Below.refl _ _) | (with_reducible refine below_alloc ?_ _) | (with_reducible refine pw_below_drewN ?_ _) | (with_reducible refine below_drew ?_))) hb⟩; obtain ⟨A_p3, c_p3, rfl⟩ := Kd.S_slice ho; have HW_p3 := Aside0.mk (S_iv ho (show Below w12.heap.size w12 _ from (by repeat (first | (with_reducible exact Below.refl _ _) | (with_reducible refine below_alloc ?_ _) | (with_reducible refine pw_below_drewN ?_ _) | (with_reducible refine below_drew ?_)))).size HB.out.size); have HB := Aside0.mk (below_step HB.out HE_.out); have HZ_13 := Aside0.mk HE_.out.size; have HW_p1 := Aside0.mk (Kd.S_below HW_p1.out HE_.out); have HW_w := Aside0.mk (Kd.R_below HW_w.out HE_.out); have HW_g := Aside0.mk (Kd.R_below HW_g.out HE_.out); have HW_p2 := Aside0.mk (Kd.S_below HW_p2.out HE_.out); have HX_0 := Aside0.mk (blk_below HX_0.out HE_.out); have HX_1 := Aside0.mk (blk_below HX_1.out HE_.out); (try clear hc0_0); (try clear hc0_1); (try clear hc1_0); (try clear hc1_1); clear hb ho; have hc0_0 : w13.cell? ⟨w.heap.size, 0, none⟩ = some (.int .i64 n_a) := (blk_cell HX_0.out 0).trans rfl; have hc0_1 : w13.cell? ⟨w.heap.size, 1, none⟩ = some (.slice A_a (l_a).length c_a) := (blk_cell HX_0.out 1).trans rfl; have hc1_0 : w13.cell? ⟨w4.heap.size, 0, none⟩ = some (.int .i64 pn) := (blk_cell HX_1.out 0).trans rfl; have hc1_1 : w13.cell? ⟨w4.heap.size, 1, none⟩ = some (.slice A_x (pl).length c_x) := (blk_cell HX_1.out 1).trans rfl; refine Aside0.out ?_)
    refine Aside0.mk ?_
    go_wp2_with (go_at_call 42; refine (impl_NeedlessCards.calls k pn A_p3 c_p3 (pl) (gl) gb _ (by repeat (first | (with_reducible exact (Kd.S_reads' HW_p3.out).2.2) | (with_reducible refine Kd.C_alloc ?_ _) | (with_reducible refine Kd.C_drewN ?_ _) | (with_reducible refine Kd.C_drew ?_))) (Kd.S_reads' HW_p3.out).2.1 H3.out).mono ?_; rintro e w14 ⟨v_, rfl, ho, hb⟩; have HE_ : Aside0 (Below w13.heap.size w13 w14) := ⟨below_step (by repeat (first | (with_reducible exact Below.refl _ _) | (with_reducible refine below_alloc ?_ _) | (with_reducible refine pw_below_drewN ?_ _) | (with_reducible refine below_drew ?_))) hb⟩; obtain ⟨A_h, c_h, rfl⟩ := Kd.R_slice ho; have HW_h := Aside0.mk (R_iv ho (show Below w13.heap.size w13 _ from (by repeat (first | (with_reducible exact Below.refl _ _) | (with_reducible refine below_alloc ?_ _) | (with_reducible refine pw_below_drewN ?_ _) | (with_reducible refine below_drew ?_)))).size HB.out.size); have HB := Aside0.mk (below_step HB.out HE_.out); have HZ_14 := Aside0.mk HE_.out.size; have HW_p1 := Aside0.mk (Kd.S_below HW_p1.out HE_.out); have HW_w := Aside0.mk (Kd.R_below HW_w.out HE_.out); have HW_g := Aside0.mk (Kd.R_below HW_g.out HE_.out); have HW_p2 := Aside0.mk (Kd.S_below HW_p2.out HE_.out); have HW_p3 := Aside0.mk (Kd.S_below HW_p3.out HE_.out); have HX_0 := Aside0.mk (blk_below HX_0.out HE_.out); have HX_1 := Aside0.mk (blk_below HX_1.out HE_.out); (try clear hc0_0); (try clear hc0_1); (try clear hc1_0); (try clear hc1_1); clear hb ho; have hc0_0 : w14.cell? ⟨w.heap.size, 0, none⟩ = some (.int .i64 n_a) := (blk_cell HX_0.out 0).trans rfl; have hc0_1 : w14.cell? ⟨w.heap.size, 1, none⟩ = some (.slice A_a (l_a).length c_a) := (blk_cell HX_0.out 1).trans rfl; have hc1_0 : w14.cell? ⟨w4.heap.size, 0, none⟩ = some (.int .i64 pn) := (blk_cell HX_1.out 0).trans rfl; have hc1_1 : w14.cell? ⟨w4.heap.size, 1, none⟩ = some (.slice A_x (pl).length c_x) := (blk_cell HX_1.out 1).trans rfl; refine Aside0.out ?_)
    refine Aside0.mk ?_
    go_wp2_with (go_at_call 19; refine (laws_eqIntS.calls k A_h c_h (gl) A_w c_w (wl) true _ (by repeat (first | (with_reducible exact (Kd.R_reads' HW_h.out).2.2) | (with_reducible refine Kd.C_alloc ?_ _) | (with_reducible refine Kd.C_drewN ?_ _) | (with_reducible refine Kd.C_drew ?_))) (Kd.R_reads' HW_h.out).2.1 (by repeat (first | (with_reducible exact (Kd.R_reads' HW_w.out).2.2) | (with_reducible refine Kd.C_alloc ?_ _) | (with_reducible refine Kd.C_drewN ?_ _) | (with_reducible refine Kd.C_drew ?_))) (Kd.R_reads' HW_w.out).2.1 H4.out).mono ?_; rintro e w15 ⟨rfl, hb⟩; (first | replace hb := hb.below | skip); have HE_ : Aside0 (Below w14.heap.size w14 w15) := ⟨below_step (by repeat (first | (with_reducible exact Below.refl _ _) | (with_reducible refine below_alloc ?_ _) | (with_reducible refine pw_below_drewN ?_ _) | (with_reducible refine below_drew ?_))) hb⟩; have HB := Aside0.mk (below_step HB.out HE_.out); have HZ_15 := Aside0.mk HE_.out.size; have HW_p1 := Aside0.mk (Kd.S_below HW_p1.out HE_.out); have HW_w := Aside0.mk (Kd.R_below HW_w.out HE_.out); have HW_g := Aside0.mk (Kd.R_below HW_g.out HE_.out); have HW_p2 := Aside0.mk (Kd.S_below HW_p2.out HE_.out); have HW_p3 := Aside0.mk (Kd.S_below HW_p3.out HE_.out); have HW_h := Aside0.mk (Kd.R_below HW_h.out HE_.out); have HX_0 := Aside0.mk (blk_below HX_0.out HE_.out); have HX_1 := Aside0.mk (blk_below HX_1.out HE_.out); (try clear hc0_0); (try clear hc0_1); (try clear hc1_0); (try clear hc1_1); clear hb; have hc0_0 : w15.cell? ⟨w.heap.size, 0, none⟩ = some (.int .i64 n_a) := (blk_cell HX_0.out 0).trans rfl; have hc0_1 : w15.cell? ⟨w.heap.size, 1, none⟩ = some (.slice A_a (l_a).length c_a) := (blk_cell HX_0.out 1).trans rfl; have hc1_0 : w15.cell? ⟨w4.heap.size, 0, none⟩ = some (.int .i64 pn) := (blk_cell HX_1.out 0).trans rfl; have hc1_1 : w15.cell? ⟨w4.heap.size, 1, none⟩ = some (.slice A_x (pl).length c_x) := (blk_cell HX_1.out 1).trans rfl; refine Aside0.out ?_)
    refine Aside0.mk ?_
    go_wp2_with (go_at_call 23; refine (laws_heldIntS.calls k A_g c_g (ml) 1 q _ (by repeat (first | (with_reducible exact (Kd.R_reads' HW_g.out).2.2) | (with_reducible refine Kd.C_alloc ?_ _) | (with_reducible refine Kd.C_drewN ?_ _) | (with_reducible refine Kd.C_drew ?_))) (Kd.R_reads' HW_g.out).2.1 H8.out).mono ?_; rintro e w16 ⟨rfl, hb⟩; (first | replace hb := hb.below | skip); have HE_ : Aside0 (Below w15.heap.size w15 w16) := ⟨below_step (by repeat (first | (with_reducible exact Below.refl _ _) | (with_reducible refine below_alloc ?_ _) | (with_reducible refine pw_below_drewN ?_ _) | (with_reducible refine below_drew ?_))) hb⟩; have HB := Aside0.mk (below_step HB.out HE_.out); have HZ_16 := Aside0.mk HE_.out.size; have HW_p1 := Aside0.mk (Kd.S_below HW_p1.out HE_.out); have HW_w := Aside0.mk (Kd.R_below HW_w.out HE_.out); have HW_g := Aside0.mk (Kd.R_below HW_g.out HE_.out); have HW_p2 := Aside0.mk (Kd.S_below HW_p2.out HE_.out); have HW_p3 := Aside0.mk (Kd.S_below HW_p3.out HE_.out); have HW_h := Aside0.mk (Kd.R_below HW_h.out HE_.out); have HX_0 := Aside0.mk (blk_below HX_0.out HE_.out); have HX_1 := Aside0.mk (blk_below HX_1.out HE_.out); (try clear hc0_0); (try clear hc0_1); (try clear hc1_0); (try clear hc1_1); clear hb; have hc0_0 : w16.cell? ⟨w.heap.size, 0, none⟩ = some (.int .i64 n_a) := (blk_cell HX_0.out 0).trans rfl; have hc0_1 : w16.cell? ⟨w.heap.size, 1, none⟩ = some (.slice A_a (l_a).length c_a) := (blk_cell HX_0.out 1).trans rfl; have hc1_0 : w16.cell? ⟨w4.heap.size, 0, none⟩ = some (.int .i64 pn) := (blk_cell HX_1.out 0).trans rfl; have hc1_1 : w16.cell? ⟨w4.heap.size, 1, none⟩ = some (.slice A_x (pl).length c_x) := (blk_cell HX_1.out 1).trans rfl; refine Aside0.out ?_)
    refine Aside0.mk ?_
    go_wp2
    go_ret
    exact ⟨rfl, (by repeat (first | (with_reducible exact HB.out) | (with_reducible refine below_alloc ?_ _) | (with_reducible refine pw_below_drewN ?_ _) | (with_reducible refine below_drew ?_)))⟩


end Go.Proofs.Ytfiikhdkohgmfaa.PFnExactNeedlessCards
