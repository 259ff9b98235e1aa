-- MADE FOR THIS CLAIM by wip/xp/xprint.py (with the kit's print; some functions' contracts proved by hand)
import Derived.Test.YtfiikhdkohgmfaaPFnExactSurePiecesx0
import Derived.Test.YtfiikhdkohgmfaaPFnExactSurePiecesx3
import Derived.Test.YtfiikhdkohgmfaaPFnExactSurePiecesx5
import Derived.Test.YtfiikhdkohgmfaaPFnExactSurePiecesx6
import Derived.Test.YtfiikhdkohgmfaaPFnExactSurePiecesx7
namespace Go.Proofs.Ytfiikhdkohgmfaa.PFnExactSurePieces
open Go.RowKit Go.Proofs.YtfiikhdkohgmfaaW.PrintWords Go.Proofs.YtfiikhdkohgmfaaW.PrintLast Go.Proofs.YtfiikhdkohgmfaaW.PrintMore
attribute [local go_sem] max2_int min2_int max_two min_two max_three min_three max_four min_four   -- for this text's walks alone
set_option linter.unusedVariables false
set_option linter.unusedSimpArgs false

/-! ### impl_waysOf: function 112 -/
def impl_waysOf.f (k : Nat) (l0 : List Int) (a1 : Int) : Option (Int) := (impl_total.f k l0).bind fun t197 => (if a1 > t197 then (some 0) else ((impl_ways.f k l0).bind fun t198 => (if 0 ≤ a1 then (if a1 < (t198.length : Int) then (some (rd t198 a1)) else (none)) else (none))))
theorem impl_waysOf.mono : ∀ a0 a1 k, LeO (impl_waysOf.f k a0 a1) (impl_waysOf.f (k + 1) a0 a1) := by
  intro a0 a1 k
  unfold impl_waysOf.f
  repeat' first
      | (with_reducible exact impl_total.mono _ _)
      | (with_reducible exact impl_ways.mono _ _)
      | (with_reducible exact LeO.refl _)
      | (with_reducible exact LeO.none _)
      | (with_reducible refine LeO.ite ?_ ?_)
      | (with_reducible refine LeO.bind ?_ (fun _ => ?_))
      | exact impl_total.mono _ _
      | exact impl_ways.mono _ _
      | exact LeO.none _
      | refine LeO.ite ?_ ?_
      | refine LeO.bind ?_ (fun _ => ?_)
set_option maxHeartbeats 8000000 in
set_option maxRecDepth 100000 in
theorem impl_waysOf.calls (k : Nat) (A0 : Option Addr) (c0 : Nat) (l0 : List Int) (a1 : Int) (r : Int) (w : World) (hr0 : Kd.C (Kd.int .i64) w A0 l0.length l0) (hc0 : l0.length ≤ c0) (h : impl_waysOf.f k l0 a1 = some r) :
    Calls Try.prog 112 #[.slice A0 l0.length c0, .int .i64 a1] w fun e w' => e = .returned (.int .i64 r) ∧ Below w.heap.size w w' := by
  have HR0 := Aside0.mk hr0
  have HC0 := Aside0.mk hc0
  clear hr0 hc0
  have HB := Aside0.mk (Below.refl w.heap.size w)
  have H : ((impl_total.f k l0).bind fun t197 => (if a1 > t197 then (some 0) else ((impl_ways.f k l0).bind fun t198 => (if 0 ≤ a1 then (if a1 < (t198.length : Int) then (some (rd t198 a1)) else (none)) else (none))))) = some r := h
  clear h
  replace H := Option.bind_eq_some_iff.mp H
  obtain ⟨t197, A30, H⟩ := H
  replace H : (if a1 > t197 then (some 0) else ((impl_ways.f k l0).bind fun t198 => (if 0 ≤ a1 then (if a1 < (t198.length : Int) then (some (rd t198 a1)) else (none)) else (none)))) = some r := H
  have A3 := Aside0.mk A30
  clear A30
  by_cases c4 : a1 > t197
  · rw [if_pos c4] at H
    have c4b0 : decide (t197 < a1) = true := decide_eq_true c4
    clear c4
    obtain rfl := Option.some.inj H
    go_enter Try.func112, Try.ntmps112
    go_wp2_with (first | ((with_reducible refine gate_callee (f := 111) rfl ?_); refine goesL_ (some 7) rfl rfl Try.func111 (by kernel_rfl) rfl #[.slice A0 l0.length c0] rfl (by (try simp only [List.map_toArray, List.map_cons, List.map_nil]); first | done | rfl | (simp only [List.length_drop, List.length_take]; rfl)) ?_; (with_reducible refine (impl_total.calls k _ _ l0 t197 _ ?side1 ?side2 A3.out).mono ?_); (case side1 => repeat (first | exact HR0.out | (with_reducible refine Kd.C_alloc ?_ _) | (with_reducible refine Kd.C_drewN ?_ _) | (with_reducible refine Kd.C_drew ?_))); (case side2 => exact HC0.out); rintro e w' ⟨rfl, ⟨nd, rfl⟩⟩; refine ⟨_, rfl, ?_⟩))
    go_ret
    exact ⟨by first | rfl | (simp [errW_none, errW_some] <;> rfl) | (simp [*, errW_none, errW_some] <;> rfl), by repeat (first | (with_reducible first | exact HB.out | apply below_alloc | apply pw_below_drewN | apply below_drew1) | exact HB.out)⟩
  · rw [if_neg c4] at H
    have c4b0 : decide (t197 < a1) = false := decide_eq_false c4
    clear c4
    replace H := Option.bind_eq_some_iff.mp H
    obtain ⟨t198, A50, H⟩ := H
    replace H : (if 0 ≤ a1 then (if a1 < (t198.length : Int) then (some (rd t198 a1)) else (none)) else (none)) = some r := H
    have A5 := Aside0.mk A50
    clear A50
    by_cases c6 : 0 ≤ a1
    · rw [if_pos c6] at H
      have c6b0 : decide (0 ≤ a1) = true := decide_eq_true c6
      clear c6
      by_cases c7 : a1 < (t198.length : Int)
      · rw [if_pos c7] at H
        have c7b0 : decide (a1 < (t198.length : Int)) = true := decide_eq_true c7
        clear c7
        obtain rfl := Option.some.inj H
        go_enter Try.func112, Try.ntmps112
        go_wp2_with (first | ((with_reducible refine gate_callee (f := 111) rfl ?_); refine goesL_ (some 7) rfl rfl Try.func111 (by kernel_rfl) rfl #[.slice A0 l0.length c0] rfl (by (try simp only [List.map_toArray, List.map_cons, List.map_nil]); first | done | rfl | (simp only [List.length_drop, List.length_take]; rfl)) ?_; (with_reducible refine (impl_total.calls k _ _ l0 t197 _ ?side1 ?side2 A3.out).mono ?_); (case side1 => repeat (first | exact HR0.out | (with_reducible refine Kd.C_alloc ?_ _) | (with_reducible refine Kd.C_drewN ?_ _) | (with_reducible refine Kd.C_drew ?_))); (case side2 => exact HC0.out); rintro e w' ⟨rfl, ⟨nd, rfl⟩⟩; refine ⟨_, rfl, ?_⟩) | ((with_reducible refine gate_callee (f := 148) rfl ?_); refine goesL_ (some 10) rfl rfl Try.func148 (by kernel_rfl) rfl #[.slice A0 l0.length c0] rfl (by (try simp only [List.map_toArray, List.map_cons, List.map_nil]); first | done | rfl | (simp only [List.length_drop, List.length_take]; rfl)) ?_; (with_reducible refine (impl_ways.calls k _ _ l0 t198 _ ?side1 ?side2 A5.out).mono ?_); (case side1 => repeat (first | exact HR0.out | (with_reducible refine Kd.C_alloc ?_ _) | (with_reducible refine Kd.C_drewN ?_ _) | (with_reducible refine Kd.C_drew ?_))); (case side2 => exact HC0.out); rintro e w8 ⟨v199, rfl, ho0, hb⟩; refine ⟨_, rfl, ?_⟩; have n0_ := Aside0.mk (Kd.R_lower ho0 (below_size (by repeat (first | (with_reducible first | exact HB.out | apply below_alloc | apply pw_below_drewN | apply below_drew1) | exact HB.out)))); have n1_ := Aside0.mk (below_step (by repeat (first | (with_reducible first | exact HB.out | apply below_alloc | apply pw_below_drewN | apply below_drew1) | exact HB.out)) hb); clear HB; have HO200 := n0_; have HB := n1_; clear n0_ n1_; (try clear hb); (try clear hb2); (try clear hk); (try clear hi); (try clear ho0); obtain ⟨Ao9, co9, eo9⟩ := Kd.R_slice HO200.out; subst eo9; have p201 : 0 ≤ (a1 : Int) := of_decide_eq_true (by first | (with_reducible assumption) | assumption); have q201 : a1 < (t198.length : Int) := of_decide_eq_true (by first | (with_reducible assumption) | assumption); obtain ⟨ad201, e201, hx201_0⟩ := Kd.at_int (Kd.R_reads' HO200.out).2.2 a1 p201 q201; cases e201; replace p201 := eq_true p201; replace q201 := eq_true q201))
        go_ret
        exact ⟨by first | rfl | (simp [errW_none, errW_some] <;> rfl) | (simp [*, errW_none, errW_some] <;> rfl), by repeat (first | (with_reducible first | exact HB.out | apply below_alloc | apply pw_below_drewN | apply below_drew1) | exact HB.out)⟩
      · rw [if_neg c7] at H
        exact absurd H (by simp)
    · rw [if_neg c6] at H
      exact absurd H (by simp)

/-! ### impl_clueOf: function 62 -/
def impl_clueOf.l0 : Nat → Int → Int → List Int → Int → Int → Option (Int × Int × Int)
  | 0, _, _, _, _, _ => none
  | k + 1, x1, x7, x41, x42, x43 => if x43 < x42 then (if 0 ≤ x43 then (if x43 < (x41.length : Int) then (if (rd x41 x43) = x1 then (impl_clueOf.l0 k x1 (wrap64 (x7 + 1)) x41 x42 (wrap64 (x43 + 1))) else (impl_clueOf.l0 k x1 x7 x41 x42 (wrap64 (x43 + 1)))) else (none)) else (none)) else (some (5, x1, x7))
def impl_clueOf.f (k : Nat) (a0 : Int) (a1 : Int) (l2 : List Int) : Option (Int × Int × Int) := if a0 = 0 then (some (0, (l2.length : Int), 0)) else (if a0 = 1 then ((impl_total.f k l2).bind fun t203 => (some (1, t203, 0))) else (if a0 = 2 then ((impl_waysOf.f k l2 a1).bind fun t204 => (some (2, a1, mn 1 t204))) else (if a0 = 3 then ((impl_run.f k l2).bind fun t205 => (some (3, t205, 0))) else (if a0 = 4 then ((impl_waysOf.f k l2 a1).bind fun t206 => (some (4, a1, t206))) else (impl_clueOf.l0 k a1 0 l2 (l2.length : Int) 0)))))
theorem impl_clueOf.mono_l : ∀ k, (∀ y0 y1 y2 y3 y4, LeO (impl_clueOf.l0 k y0 y1 y2 y3 y4) (impl_clueOf.l0 (k + 1) y0 y1 y2 y3 y4))
  | 0 => fun _ _ _ _ _ r h => by simp [impl_clueOf.l0] at h
  | k + 1 => by
    have ih0 := impl_clueOf.mono_l k
    · intro y0 y1 y2 y3 y4
      unfold impl_clueOf.l0
      repeat' first
      | (with_reducible exact ih0 _ _ _ _ _)
      | (with_reducible exact impl_run.mono _ _)
      | (with_reducible exact impl_total.mono _ _)
      | (with_reducible exact impl_waysOf.mono _ _ _)
      | (with_reducible exact LeO.refl _)
      | (with_reducible exact LeO.none _)
      | (with_reducible refine LeO.ite ?_ ?_)
      | (with_reducible refine LeO.bind ?_ (fun _ => ?_))
      | exact ih0 _ _ _ _ _
      | exact impl_run.mono _ _
      | exact impl_total.mono _ _
      | exact impl_waysOf.mono _ _ _
      | exact LeO.none _
      | refine LeO.ite ?_ ?_
      | refine LeO.bind ?_ (fun _ => ?_)
theorem impl_clueOf.mono : ∀ a0 a1 a2 k, LeO (impl_clueOf.f k a0 a1 a2) (impl_clueOf.f (k + 1) a0 a1 a2) := by
  intro a0 a1 a2 k
  have ih0 := impl_clueOf.mono_l k
  unfold impl_clueOf.f
  repeat' first
      | (with_reducible exact ih0 _ _ _ _ _)
      | (with_reducible exact impl_run.mono _ _)
      | (with_reducible exact impl_total.mono _ _)
      | (with_reducible exact impl_waysOf.mono _ _ _)
      | (with_reducible exact LeO.refl _)
      | (with_reducible exact LeO.none _)
      | (with_reducible refine LeO.ite ?_ ?_)
      | (with_reducible refine LeO.bind ?_ (fun _ => ?_))
      | exact ih0 _ _ _ _ _
      | exact impl_run.mono _ _
      | exact impl_total.mono _ _
      | exact impl_waysOf.mono _ _ _
      | exact LeO.none _
      | refine LeO.ite ?_ ?_
      | refine LeO.bind ?_ (fun _ => ?_)
set_option maxHeartbeats 8000000 in
set_option maxRecDepth 100000 in
theorem impl_clueOf.calls (k : Nat) (a0 : Int) (a1 : Int) (A2 : Option Addr) (c2 : Nat) (l2 : List Int) (r1 : Int) (r2 : Int) (r3 : Int) (w : World) (hr2 : Kd.C (Kd.int .i64) w A2 l2.length l2) (hc2 : l2.length ≤ c2) (h : impl_clueOf.f k a0 a1 l2 = some (r1, r2, r3)) :
    Calls Try.prog 62 #[.int .i64 a0, .int .i64 a1, .slice A2 l2.length c2] w fun e w' => e = .returned (.agg #[.int .i64 r1, .int .i64 r2, .int .i64 r3]) ∧ Below w.heap.size w w' := by
  have hu76 := Try.underlying76
  have HR2 := Aside0.mk hr2
  have HC2 := Aside0.mk hc2
  clear hr2 hc2
  have HB := Aside0.mk (Below.refl w.heap.size w)
  have H : (if a0 = 0 then (some (0, (l2.length : Int), 0)) else (if a0 = 1 then ((impl_total.f k l2).bind fun t203 => (some (1, t203, 0))) else (if a0 = 2 then ((impl_waysOf.f k l2 a1).bind fun t204 => (some (2, a1, mn 1 t204))) else (if a0 = 3 then ((impl_run.f k l2).bind fun t205 => (some (3, t205, 0))) else (if a0 = 4 then ((impl_waysOf.f k l2 a1).bind fun t206 => (some (4, a1, t206))) else (impl_clueOf.l0 k a1 0 l2 (l2.length : Int) 0)))))) = some (r1, r2, r3) := h
  clear h
  by_cases c4 : a0 = 0
  · rw [if_pos c4] at H
    have c4b0 : (a0 == 0) = true := beq_iff_eq.mpr c4
    have c4b1 : (a0 != 0) = false := bne_eq_false_iff_eq.mpr c4
    clear c4
    simp only [Option.some.injEq, Prod.mk.injEq] at H
    obtain ⟨rfl, rfl, rfl⟩ := H
    go_enter Try.func62, Try.ntmps62
    go_wp2_with (first | ((with_reducible refine gate_dst (N := 6) rfl ?_); refine box_event ?hg (N := 6) ?hd (cs := #[.int .i64 0, .int .i64 0, .int .i64 0]) (t := 76) ?hr ?_; (case hd => rfl); (case hg => rfl); (case hr => first | (go_simp; done) | (go_simp; rfl)); intro gb202 hg w5 hbox hb; have n0_ := Aside0.mk (below_step (by repeat (first | (with_reducible first | exact HB.out | apply below_alloc | apply pw_below_drewN | apply below_drew1) | exact HB.out)) hb); have n1_ := Aside0.mk (hbox); have n2_ := Aside0.mk ((by rw [hg]; exact (below_size (by repeat (first | (with_reducible first | exact HB.out | apply below_alloc | apply pw_below_drewN | apply below_drew1) | exact HB.out))) : w.heap.size ≤ gb202)); have n3_ := Aside0.mk ((by rw [hg]; exact (below_size (by repeat (first | (with_reducible first | exact HB.out | apply below_alloc | apply pw_below_drewN | apply below_drew1) | exact HB.out))) : w.heap.size ≤ gb202)); clear HB; have HB := n0_; have BK202 := n1_; have GW202 := n2_; have GE202 := n3_; clear n0_ n1_ n2_ n3_; clear hb hbox hg; have hcz6_0 : w5.cell? ⟨gb202, 0, none⟩ = some (.int .i64 0) := (blk_cell BK202.out 0).trans rfl; have hcz6_1 : w5.cell? ⟨gb202, 1, none⟩ = some (.int .i64 0) := (blk_cell BK202.out 1).trans rfl; have hcz6_2 : w5.cell? ⟨gb202, 2, none⟩ = some (.int .i64 0) := (blk_cell BK202.out 2).trans rfl; have hfz6_0 := blk_frozen BK202.out 0; have hfz6_1 := blk_frozen BK202.out 1; have hfz6_2 := blk_frozen BK202.out 2))
    refine bodyPost_ret (results_cell_row rfl _ _ gb202 76 #[.int .i64 0, .int .i64 (l2.length : Int), .int .i64 0] (0, 0) _ rfl (by (with_reducible repeat (first | refine blk_drewN ?_ _ | refine blk_drew ?_ | refine blk_alloc ?_ _)); refine blk_put (cs := #[.int .i64 0, .int .i64 (l2.length : Int), .int .i64 0]) ?_ 2 _ rfl; (with_reducible repeat (first | refine blk_drewN ?_ _ | refine blk_drew ?_ | refine blk_alloc ?_ _)); refine blk_put (cs := #[.int .i64 0, .int .i64 0, .int .i64 0]) ?_ 1 _ rfl; (with_reducible repeat (first | refine blk_drewN ?_ _ | refine blk_drew ?_ | refine blk_alloc ?_ _)); refine blk_put (cs := #[.int .i64 0, .int .i64 0, .int .i64 0]) ?_ 0 _ rfl; (with_reducible repeat (first | refine blk_drewN ?_ _ | refine blk_drew ?_ | refine blk_alloc ?_ _)); exact BK202.out) Try.underlying76 rfl (by kernel_rfl)) rfl ?_
    exact ⟨by first | rfl | (simp [errW_none, errW_some] <;> rfl) | (simp [*, errW_none, errW_some] <;> rfl), by repeat (first | (with_reducible first | exact HB.out | apply below_alloc | apply pw_below_drewN | apply below_drew1 | refine below_set ?_ GE202.out) | exact HB.out)⟩
  · rw [if_neg c4] at H
    have c4b0 : (a0 == 0) = false := beq_eq_false_iff_ne.mpr c4
    have c4b1 : (a0 != 0) = true := bne_iff_ne.mpr c4
    by_cases c7 : a0 = 1
    · rw [if_pos c7] at H
      have c7b0 : (a0 == 1) = true := beq_iff_eq.mpr c7
      have c7b1 : (a0 != 1) = false := bne_eq_false_iff_eq.mpr c7
      clear c7
      replace H := Option.bind_eq_some_iff.mp H
      obtain ⟨t203, A80, H⟩ := H
      replace H : (some (1, t203, 0)) = some (r1, r2, r3) := H
      have A8 := Aside0.mk A80
      clear A80
      simp only [Option.some.injEq, Prod.mk.injEq] at H
      obtain ⟨rfl, rfl, rfl⟩ := H
      go_enter Try.func62, Try.ntmps62
      go_wp2_with (first | ((with_reducible refine gate_dst (N := 6) rfl ?_); refine box_event ?hg (N := 6) ?hd (cs := #[.int .i64 0, .int .i64 0, .int .i64 0]) (t := 76) ?hr ?_; (case hd => rfl); (case hg => rfl); (case hr => first | (go_simp; done) | (go_simp; rfl)); intro gb202 hg w9 hbox hb; have n0_ := Aside0.mk (below_step (by repeat (first | (with_reducible first | exact HB.out | apply below_alloc | apply pw_below_drewN | apply below_drew1) | exact HB.out)) hb); have n1_ := Aside0.mk (hbox); have n2_ := Aside0.mk ((by rw [hg]; exact (below_size (by repeat (first | (with_reducible first | exact HB.out | apply below_alloc | apply pw_below_drewN | apply below_drew1) | exact HB.out))) : w.heap.size ≤ gb202)); have n3_ := Aside0.mk ((by rw [hg]; exact (below_size (by repeat (first | (with_reducible first | exact HB.out | apply below_alloc | apply pw_below_drewN | apply below_drew1) | exact HB.out))) : w.heap.size ≤ gb202)); clear HB; have HB := n0_; have BK202 := n1_; have GW202 := n2_; have GE202 := n3_; clear n0_ n1_ n2_ n3_; clear hb hbox hg) | ((with_reducible refine gate_callee (f := 111) rfl ?_); refine goesL_ (some 19) rfl rfl Try.func111 (by kernel_rfl) rfl #[.slice A2 l2.length c2] rfl (by (try simp only [List.map_toArray, List.map_cons, List.map_nil]); first | done | rfl | (simp only [List.length_drop, List.length_take]; rfl)) ?_; (with_reducible refine (impl_total.calls k _ _ l2 t203 _ ?side1 ?side2 A8.out).mono ?_); (case side1 => repeat (first | exact (Kd.C_below HR2.out HB.out) | (with_reducible refine Kd.C_alloc ?_ _) | (with_reducible refine Kd.C_drewN ?_ _) | (with_reducible refine Kd.C_drew ?_))); (case side2 => exact HC2.out); rintro e w' ⟨rfl, ⟨nd, rfl⟩⟩; refine ⟨_, rfl, ?_⟩; (try (rw [drewN_self w9]; generalize hq_ : World.drewN w9 _ = w9; have n0_ : Aside0 (w9.heap[gb202]? = some (.cells #[.int .i64 0, .int .i64 0, .int .i64 0] 76 (0, 0))) := ⟨by rw [← hq_]; exact (by (with_reducible repeat (first | refine blk_drewN ?_ _ | refine blk_drew ?_ | refine blk_alloc ?_ _)); exact BK202.out)⟩; have n1_ : Aside0 (Below w.heap.size w w9) := ⟨by rw [← hq_]; exact (by repeat (first | (with_reducible first | exact HB.out | apply below_alloc | apply pw_below_drewN | apply below_drew1 | refine below_set ?_ GE202.out) | exact HB.out))⟩; clear BK202 HB hq_; have BK202 := n0_; have HB := n1_; clear n0_ n1_; (try have hcyBK202_0 : w9.cell? ⟨gb202, 0, none⟩ = some (.int .i64 0) := (blk_cell BK202.out 0).trans rfl); (try have hcyBK202_1 : w9.cell? ⟨gb202, 1, none⟩ = some (.int .i64 0) := (blk_cell BK202.out 1).trans rfl); (try have hcyBK202_2 : w9.cell? ⟨gb202, 2, none⟩ = some (.int .i64 0) := (blk_cell BK202.out 2).trans rfl))); have hcz10_0 : w9.cell? ⟨gb202, 0, none⟩ = some (.int .i64 0) := (blk_cell BK202.out 0).trans rfl; have hcz10_1 : w9.cell? ⟨gb202, 1, none⟩ = some (.int .i64 0) := (blk_cell BK202.out 1).trans rfl; have hcz10_2 : w9.cell? ⟨gb202, 2, none⟩ = some (.int .i64 0) := (blk_cell BK202.out 2).trans rfl; have hfz10_0 := blk_frozen BK202.out 0; have hfz10_1 := blk_frozen BK202.out 1; have hfz10_2 := blk_frozen BK202.out 2))
      refine bodyPost_ret (results_cell_row rfl _ _ gb202 76 #[.int .i64 1, .int .i64 t203, .int .i64 0] (0, 0) _ rfl (by (with_reducible repeat (first | refine blk_drewN ?_ _ | refine blk_drew ?_ | refine blk_alloc ?_ _)); refine blk_put (cs := #[.int .i64 1, .int .i64 t203, .int .i64 0]) ?_ 2 _ rfl; (with_reducible repeat (first | refine blk_drewN ?_ _ | refine blk_drew ?_ | refine blk_alloc ?_ _)); refine blk_put (cs := #[.int .i64 1, .int .i64 0, .int .i64 0]) ?_ 1 _ rfl; (with_reducible repeat (first | refine blk_drewN ?_ _ | refine blk_drew ?_ | refine blk_alloc ?_ _)); refine blk_put (cs := #[.int .i64 0, .int .i64 0, .int .i64 0]) ?_ 0 _ rfl; (with_reducible repeat (first | refine blk_drewN ?_ _ | refine blk_drew ?_ | refine blk_alloc ?_ _)); exact BK202.out) Try.underlying76 rfl (by kernel_rfl)) rfl ?_
      exact ⟨by first | rfl | (simp [errW_none, errW_some] <;> rfl) | (simp [*, errW_none, errW_some] <;> rfl), by repeat (first | (with_reducible first | exact HB.out | apply below_alloc | apply pw_below_drewN | apply below_drew1 | refine below_set ?_ GE202.out) | exact HB.out)⟩
    · rw [if_neg c7] at H
      have c7b0 : (a0 == 1) = false := beq_eq_false_iff_ne.mpr c7
      have c7b1 : (a0 != 1) = true := bne_iff_ne.mpr c7
      by_cases c11 : a0 = 2
      · rw [if_pos c11] at H
        have c11b0 : (a0 == 2) = true := beq_iff_eq.mpr c11
        have c11b1 : (a0 != 2) = false := bne_eq_false_iff_eq.mpr c11
        clear c11
        replace H := Option.bind_eq_some_iff.mp H
        obtain ⟨t204, A120, H⟩ := H
        replace H : (some (2, a1, mn 1 t204)) = some (r1, r2, r3) := H
        have A12 := Aside0.mk A120
        clear A120
        obtain ⟨ji13, hji13⟩ : ∃ j_ : Int, (mn 1 t204) = j_ := ⟨_, rfl⟩
        replace H : (some (2, a1, ji13)) = some (r1, r2, r3) := by first | (rw [hji13] at H; exact H) | (simp only [hji13] at H ⊢; exact H)
        (try rw [hji13] at A12)
        (try (have hji13h : ji13 ≤ 1 := by (rw [← hji13]; unfold mn; (repeat' split) <;> omega)))
        (try (have hji13g : ji13 ≤ 64 := by omega))
        have hji13_ : (if t204 < 1 then t204 else 1) = ji13 := hji13
        simp only [Option.some.injEq, Prod.mk.injEq] at H
        obtain ⟨rfl, rfl, rfl⟩ := H
        go_enter Try.func62, Try.ntmps62
        go_wp2_with (first | ((with_reducible refine gate_dst (N := 6) rfl ?_); refine box_event ?hg (N := 6) ?hd (cs := #[.int .i64 0, .int .i64 0, .int .i64 0]) (t := 76) ?hr ?_; (case hd => rfl); (case hg => rfl); (case hr => first | (go_simp; done) | (go_simp; rfl)); intro gb202 hg w14 hbox hb; have n0_ := Aside0.mk (below_step (by repeat (first | (with_reducible first | exact HB.out | apply below_alloc | apply pw_below_drewN | apply below_drew1) | exact HB.out)) hb); have n1_ := Aside0.mk (hbox); have n2_ := Aside0.mk ((by rw [hg]; exact (below_size (by repeat (first | (with_reducible first | exact HB.out | apply below_alloc | apply pw_below_drewN | apply below_drew1) | exact HB.out))) : w.heap.size ≤ gb202)); have n3_ := Aside0.mk ((by rw [hg]; exact (below_size (by repeat (first | (with_reducible first | exact HB.out | apply below_alloc | apply pw_below_drewN | apply below_drew1) | exact HB.out))) : w.heap.size ≤ gb202)); clear HB; have HB := n0_; have BK202 := n1_; have GW202 := n2_; have GE202 := n3_; clear n0_ n1_ n2_ n3_; clear hb hbox hg) | ((with_reducible refine gate_callee (f := 112) rfl ?_); refine goesL_ (some 26) rfl rfl Try.func112 (by kernel_rfl) rfl #[.slice A2 l2.length c2, .int .i64 a1] rfl (by (try simp only [List.map_toArray, List.map_cons, List.map_nil]); first | done | rfl | (simp only [List.length_drop, List.length_take]; rfl)) ?_; (with_reducible refine (impl_waysOf.calls k _ _ l2 a1 t204 _ ?side1 ?side2 A12.out).mono ?_); (case side1 => repeat (first | exact (Kd.C_below HR2.out HB.out) | (with_reducible refine Kd.C_alloc ?_ _) | (with_reducible refine Kd.C_drewN ?_ _) | (with_reducible refine Kd.C_drew ?_))); (case side2 => exact HC2.out); rintro e w15 ⟨rfl, hb⟩; refine ⟨_, rfl, ?_⟩; have n0_ := Aside0.mk (blk_below (g := gb202) (o := .cells #[.int .i64 0, .int .i64 0, .int .i64 0] 76 (0, 0)) (by (with_reducible repeat (first | refine blk_drewN ?_ _ | refine blk_drew ?_ | refine blk_alloc ?_ _)); exact BK202.out) hb); have n1_ := Aside0.mk (below_step (by repeat (first | (with_reducible first | exact HB.out | apply below_alloc | apply pw_below_drewN | apply below_drew1 | refine below_set ?_ GE202.out) | exact HB.out)) hb); clear BK202; clear HB; have BK202 := n0_; have HB := n1_; clear n0_ n1_; (try clear hb); (try clear hb2); (try clear hk); (try clear hi); have hcz16_0 : w15.cell? ⟨gb202, 0, none⟩ = some (.int .i64 0) := (blk_cell BK202.out 0).trans rfl; have hcz16_1 : w15.cell? ⟨gb202, 1, none⟩ = some (.int .i64 0) := (blk_cell BK202.out 1).trans rfl; have hcz16_2 : w15.cell? ⟨gb202, 2, none⟩ = some (.int .i64 0) := (blk_cell BK202.out 2).trans rfl; have hfz16_0 := blk_frozen BK202.out 0; have hfz16_1 := blk_frozen BK202.out 1; have hfz16_2 := blk_frozen BK202.out 2))
        refine bodyPost_ret (results_cell_row rfl _ _ gb202 76 #[.int .i64 2, .int .i64 a1, .int .i64 ji13] (0, 0) _ rfl (by (with_reducible repeat (first | refine blk_drewN ?_ _ | refine blk_drew ?_ | refine blk_alloc ?_ _)); refine blk_put (cs := #[.int .i64 2, .int .i64 a1, .int .i64 0]) ?_ 2 _ rfl; (with_reducible repeat (first | refine blk_drewN ?_ _ | refine blk_drew ?_ | refine blk_alloc ?_ _)); refine blk_put (cs := #[.int .i64 2, .int .i64 0, .int .i64 0]) ?_ 1 _ rfl; (with_reducible repeat (first | refine blk_drewN ?_ _ | refine blk_drew ?_ | refine blk_alloc ?_ _)); refine blk_put (cs := #[.int .i64 0, .int .i64 0, .int .i64 0]) ?_ 0 _ rfl; (with_reducible repeat (first | refine blk_drewN ?_ _ | refine blk_drew ?_ | refine blk_alloc ?_ _)); exact BK202.out) Try.underlying76 rfl (by kernel_rfl)) rfl ?_
        exact ⟨by first | rfl | (simp [errW_none, errW_some] <;> rfl) | (simp only [← hji13]; first | rfl | (simp [errW_none, errW_some] <;> rfl)) | (simp [*, errW_none, errW_some] <;> rfl), by repeat (first | (with_reducible first | exact HB.out | apply below_alloc | apply pw_below_drewN | apply below_drew1 | refine below_set ?_ GE202.out) | exact HB.out)⟩
      · rw [if_neg c11] at H
        have c11b0 : (a0 == 2) = false := beq_eq_false_iff_ne.mpr c11
        have c11b1 : (a0 != 2) = true := bne_iff_ne.mpr c11
        by_cases c17 : a0 = 3
        · rw [if_pos c17] at H
          have c17b0 : (a0 == 3) = true := beq_iff_eq.mpr c17
          have c17b1 : (a0 != 3) = false := bne_eq_false_iff_eq.mpr c17
          clear c17
          replace H := Option.bind_eq_some_iff.mp H
          obtain ⟨t205, A180, H⟩ := H
          replace H : (some (3, t205, 0)) = some (r1, r2, r3) := H
          have A18 := Aside0.mk A180
          clear A180
          simp only [Option.some.injEq, Prod.mk.injEq] at H
          obtain ⟨rfl, rfl, rfl⟩ := H
          go_enter Try.func62, Try.ntmps62
          go_wp2_with (first | ((with_reducible refine gate_dst (N := 6) rfl ?_); refine box_event ?hg (N := 6) ?hd (cs := #[.int .i64 0, .int .i64 0, .int .i64 0]) (t := 76) ?hr ?_; (case hd => rfl); (case hg => rfl); (case hr => first | (go_simp; done) | (go_simp; rfl)); intro gb202 hg w19 hbox hb; have n0_ := Aside0.mk (below_step (by repeat (first | (with_reducible first | exact HB.out | apply below_alloc | apply pw_below_drewN | apply below_drew1) | exact HB.out)) hb); have n1_ := Aside0.mk (hbox); have n2_ := Aside0.mk ((by rw [hg]; exact (below_size (by repeat (first | (with_reducible first | exact HB.out | apply below_alloc | apply pw_below_drewN | apply below_drew1) | exact HB.out))) : w.heap.size ≤ gb202)); have n3_ := Aside0.mk ((by rw [hg]; exact (below_size (by repeat (first | (with_reducible first | exact HB.out | apply below_alloc | apply pw_below_drewN | apply below_drew1) | exact HB.out))) : w.heap.size ≤ gb202)); clear HB; have HB := n0_; have BK202 := n1_; have GW202 := n2_; have GE202 := n3_; clear n0_ n1_ n2_ n3_; clear hb hbox hg) | ((with_reducible refine gate_callee (f := 101) rfl ?_); refine goesL_ (some 32) rfl rfl Try.func101 (by kernel_rfl) rfl #[.slice A2 l2.length c2] rfl (by (try simp only [List.map_toArray, List.map_cons, List.map_nil]); first | done | rfl | (simp only [List.length_drop, List.length_take]; rfl)) ?_; (with_reducible refine (impl_run.calls k _ _ l2 t205 _ ?side1 ?side2 A18.out).mono ?_); (case side1 => repeat (first | exact (Kd.C_below HR2.out HB.out) | (with_reducible refine Kd.C_alloc ?_ _) | (with_reducible refine Kd.C_drewN ?_ _) | (with_reducible refine Kd.C_drew ?_))); (case side2 => exact HC2.out); rintro e w' ⟨rfl, ⟨nd, rfl⟩⟩; refine ⟨_, rfl, ?_⟩; (try (rw [drewN_self w19]; generalize hq_ : World.drewN w19 _ = w19; have n0_ : Aside0 (w19.heap[gb202]? = some (.cells #[.int .i64 0, .int .i64 0, .int .i64 0] 76 (0, 0))) := ⟨by rw [← hq_]; exact (by (with_reducible repeat (first | refine blk_drewN ?_ _ | refine blk_drew ?_ | refine blk_alloc ?_ _)); exact BK202.out)⟩; have n1_ : Aside0 (Below w.heap.size w w19) := ⟨by rw [← hq_]; exact (by repeat (first | (with_reducible first | exact HB.out | apply below_alloc | apply pw_below_drewN | apply below_drew1 | refine below_set ?_ GE202.out) | exact HB.out))⟩; clear BK202 HB hq_; have BK202 := n0_; have HB := n1_; clear n0_ n1_; (try have hcyBK202_0 : w19.cell? ⟨gb202, 0, none⟩ = some (.int .i64 0) := (blk_cell BK202.out 0).trans rfl); (try have hcyBK202_1 : w19.cell? ⟨gb202, 1, none⟩ = some (.int .i64 0) := (blk_cell BK202.out 1).trans rfl); (try have hcyBK202_2 : w19.cell? ⟨gb202, 2, none⟩ = some (.int .i64 0) := (blk_cell BK202.out 2).trans rfl))); have hcz20_0 : w19.cell? ⟨gb202, 0, none⟩ = some (.int .i64 0) := (blk_cell BK202.out 0).trans rfl; have hcz20_1 : w19.cell? ⟨gb202, 1, none⟩ = some (.int .i64 0) := (blk_cell BK202.out 1).trans rfl; have hcz20_2 : w19.cell? ⟨gb202, 2, none⟩ = some (.int .i64 0) := (blk_cell BK202.out 2).trans rfl; have hfz20_0 := blk_frozen BK202.out 0; have hfz20_1 := blk_frozen BK202.out 1; have hfz20_2 := blk_frozen BK202.out 2))
          refine bodyPost_ret (results_cell_row rfl _ _ gb202 76 #[.int .i64 3, .int .i64 t205, .int .i64 0] (0, 0) _ rfl (by (with_reducible repeat (first | refine blk_drewN ?_ _ | refine blk_drew ?_ | refine blk_alloc ?_ _)); refine blk_put (cs := #[.int .i64 3, .int .i64 t205, .int .i64 0]) ?_ 2 _ rfl; (with_reducible repeat (first | refine blk_drewN ?_ _ | refine blk_drew ?_ | refine blk_alloc ?_ _)); refine blk_put (cs := #[.int .i64 3, .int .i64 0, .int .i64 0]) ?_ 1 _ rfl; (with_reducible repeat (first | refine blk_drewN ?_ _ | refine blk_drew ?_ | refine blk_alloc ?_ _)); refine blk_put (cs := #[.int .i64 0, .int .i64 0, .int .i64 0]) ?_ 0 _ rfl; (with_reducible repeat (first | refine blk_drewN ?_ _ | refine blk_drew ?_ | refine blk_alloc ?_ _)); exact BK202.out) Try.underlying76 rfl (by kernel_rfl)) rfl ?_
          exact ⟨by first | rfl | (simp [errW_none, errW_some] <;> rfl) | (simp [*, errW_none, errW_some] <;> rfl), by repeat (first | (with_reducible first | exact HB.out | apply below_alloc | apply pw_below_drewN | apply below_drew1 | refine below_set ?_ GE202.out) | exact HB.out)⟩
        · rw [if_neg c17] at H
          have c17b0 : (a0 == 3) = false := beq_eq_false_iff_ne.mpr c17
          have c17b1 : (a0 != 3) = true := bne_iff_ne.mpr c17
          by_cases c21 : a0 = 4
          · rw [if_pos c21] at H
            have c21b0 : (a0 == 4) = true := beq_iff_eq.mpr c21
            have c21b1 : (a0 != 4) = false := bne_eq_false_iff_eq.mpr c21
            clear c21
            replace H := Option.bind_eq_some_iff.mp H
            obtain ⟨t206, A220, H⟩ := H
            replace H : (some (4, a1, t206)) = some (r1, r2, r3) := H
            have A22 := Aside0.mk A220
            clear A220
            simp only [Option.some.injEq, Prod.mk.injEq] at H
            obtain ⟨rfl, rfl, rfl⟩ := H
            go_enter Try.func62, Try.ntmps62
            go_wp2_with (first | ((with_reducible refine gate_dst (N := 6) rfl ?_); refine box_event ?hg (N := 6) ?hd (cs := #[.int .i64 0, .int .i64 0, .int .i64 0]) (t := 76) ?hr ?_; (case hd => rfl); (case hg => rfl); (case hr => first | (go_simp; done) | (go_simp; rfl)); intro gb202 hg w23 hbox hb; have n0_ := Aside0.mk (below_step (by repeat (first | (with_reducible first | exact HB.out | apply below_alloc | apply pw_below_drewN | apply below_drew1) | exact HB.out)) hb); have n1_ := Aside0.mk (hbox); have n2_ := Aside0.mk ((by rw [hg]; exact (below_size (by repeat (first | (with_reducible first | exact HB.out | apply below_alloc | apply pw_below_drewN | apply below_drew1) | exact HB.out))) : w.heap.size ≤ gb202)); have n3_ := Aside0.mk ((by rw [hg]; exact (below_size (by repeat (first | (with_reducible first | exact HB.out | apply below_alloc | apply pw_below_drewN | apply below_drew1) | exact HB.out))) : w.heap.size ≤ gb202)); clear HB; have HB := n0_; have BK202 := n1_; have GW202 := n2_; have GE202 := n3_; clear n0_ n1_ n2_ n3_; clear hb hbox hg) | ((with_reducible refine gate_callee (f := 112) rfl ?_); refine goesL_ (some 39) rfl rfl Try.func112 (by kernel_rfl) rfl #[.slice A2 l2.length c2, .int .i64 a1] rfl (by (try simp only [List.map_toArray, List.map_cons, List.map_nil]); first | done | rfl | (simp only [List.length_drop, List.length_take]; rfl)) ?_; (with_reducible refine (impl_waysOf.calls k _ _ l2 a1 t206 _ ?side1 ?side2 A22.out).mono ?_); (case side1 => repeat (first | exact (Kd.C_below HR2.out HB.out) | (with_reducible refine Kd.C_alloc ?_ _) | (with_reducible refine Kd.C_drewN ?_ _) | (with_reducible refine Kd.C_drew ?_))); (case side2 => exact HC2.out); rintro e w24 ⟨rfl, hb⟩; refine ⟨_, rfl, ?_⟩; have n0_ := Aside0.mk (blk_below (g := gb202) (o := .cells #[.int .i64 0, .int .i64 0, .int .i64 0] 76 (0, 0)) (by (with_reducible repeat (first | refine blk_drewN ?_ _ | refine blk_drew ?_ | refine blk_alloc ?_ _)); exact BK202.out) hb); have n1_ := Aside0.mk (below_step (by repeat (first | (with_reducible first | exact HB.out | apply below_alloc | apply pw_below_drewN | apply below_drew1 | refine below_set ?_ GE202.out) | exact HB.out)) hb); clear BK202; clear HB; have BK202 := n0_; have HB := n1_; clear n0_ n1_; (try clear hb); (try clear hb2); (try clear hk); (try clear hi); have hcz25_0 : w24.cell? ⟨gb202, 0, none⟩ = some (.int .i64 0) := (blk_cell BK202.out 0).trans rfl; have hcz25_1 : w24.cell? ⟨gb202, 1, none⟩ = some (.int .i64 0) := (blk_cell BK202.out 1).trans rfl; have hcz25_2 : w24.cell? ⟨gb202, 2, none⟩ = some (.int .i64 0) := (blk_cell BK202.out 2).trans rfl; have hfz25_0 := blk_frozen BK202.out 0; have hfz25_1 := blk_frozen BK202.out 1; have hfz25_2 := blk_frozen BK202.out 2))
            refine bodyPost_ret (results_cell_row rfl _ _ gb202 76 #[.int .i64 4, .int .i64 a1, .int .i64 t206] (0, 0) _ rfl (by (with_reducible repeat (first | refine blk_drewN ?_ _ | refine blk_drew ?_ | refine blk_alloc ?_ _)); refine blk_put (cs := #[.int .i64 4, .int .i64 a1, .int .i64 0]) ?_ 2 _ rfl; (with_reducible repeat (first | refine blk_drewN ?_ _ | refine blk_drew ?_ | refine blk_alloc ?_ _)); refine blk_put (cs := #[.int .i64 4, .int .i64 0, .int .i64 0]) ?_ 1 _ rfl; (with_reducible repeat (first | refine blk_drewN ?_ _ | refine blk_drew ?_ | refine blk_alloc ?_ _)); refine blk_put (cs := #[.int .i64 0, .int .i64 0, .int .i64 0]) ?_ 0 _ rfl; (with_reducible repeat (first | refine blk_drewN ?_ _ | refine blk_drew ?_ | refine blk_alloc ?_ _)); exact BK202.out) Try.underlying76 rfl (by kernel_rfl)) rfl ?_
            exact ⟨by first | rfl | (simp [errW_none, errW_some] <;> rfl) | (simp [*, errW_none, errW_some] <;> rfl), by repeat (first | (with_reducible first | exact HB.out | apply below_alloc | apply pw_below_drewN | apply below_drew1 | refine below_set ?_ GE202.out) | exact HB.out)⟩
          · rw [if_neg c21] at H
            have c21b0 : (a0 == 4) = false := beq_eq_false_iff_ne.mpr c21
            have c21b1 : (a0 != 4) = true := bne_iff_ne.mpr c21
            have H' := Aside0.mk H
            clear H
            go_enter Try.func62, Try.ntmps62
            go_wp2_with (first | ((with_reducible refine gate_dst (N := 6) rfl ?_); refine box_event ?hg (N := 6) ?hd (cs := #[.int .i64 0, .int .i64 0, .int .i64 0]) (t := 76) ?hr ?_; (case hd => rfl); (case hg => rfl); (case hr => first | (go_simp; done) | (go_simp; rfl)); intro gb202 hg w26 hbox hb; have n0_ := Aside0.mk (below_step (by repeat (first | (with_reducible first | exact HB.out | apply below_alloc | apply pw_below_drewN | apply below_drew1) | exact HB.out)) hb); have n1_ := Aside0.mk (hbox); have n2_ := Aside0.mk ((by rw [hg]; exact (below_size (by repeat (first | (with_reducible first | exact HB.out | apply below_alloc | apply pw_below_drewN | apply below_drew1) | exact HB.out))) : w.heap.size ≤ gb202)); have n3_ := Aside0.mk ((by rw [hg]; exact (below_size (by repeat (first | (with_reducible first | exact HB.out | apply below_alloc | apply pw_below_drewN | apply below_drew1) | exact HB.out))) : w.heap.size ≤ gb202)); clear HB; have HB := n0_; have BK202 := n1_; have GW202 := n2_; have GE202 := n3_; clear n0_ n1_ n2_ n3_; clear hb hbox hg))
            go_loopg [7, 43] k (fun kq v7 v43 w' => ∃ (x7_1 : Int) (x43_1 : Int), v7 = .int .i64 x7_1 ∧ v43 = .int .i64 x43_1 ∧ Aside0 (impl_clueOf.l0 kq a1 x7_1 l2 (l2.length : Int) x43_1 = some (r1, r2, r3)) ∧ Aside0 (kq ≤ k) ∧ Aside0 (w'.heap[gb202]? = some (.cells #[.int .i64 0, .int .i64 0, .int .i64 0] 76 (0, 0))) ∧ Aside0 (Below w.heap.size w w'))
            case atStart => exact ⟨(0), (0), (by first | rfl | (simp; done) | (simp [*]; done)), (by first | rfl | (simp; done) | (simp [*]; done)), H', ⟨Nat.le_refl _⟩, ⟨by (with_reducible repeat (first | refine blk_drewN ?_ _ | refine blk_drew ?_ | refine blk_alloc ?_ _)); exact BK202.out⟩, ⟨by repeat (first | (with_reducible first | exact HB.out | apply below_alloc | apply pw_below_drewN | apply below_drew1 | refine below_set ?_ GE202.out) | exact HB.out)⟩⟩
            case round =>
              clear H'
              try clear c1
              try clear c2
              try clear p2
              try clear c4
              try clear c4b0
              try clear c4b1
              try clear c6
              try clear c7
              try clear c7b0
              try clear c7b1
              try clear c10
              try clear c11
              try clear c11b0
              try clear c11b1
              try clear c17
              try clear c17b0
              try clear c17b1
              try clear c21
              try clear c21b0
              try clear c21b1
              try clear hcz10_0
              try clear hcz10_1
              try clear hcz10_2
              try clear hcz16_0
              try clear hcz16_1
              try clear hcz16_2
              try clear hcz20_0
              try clear hcz20_1
              try clear hcz20_2
              try clear hcz25_0
              try clear hcz25_1
              try clear hcz25_2
              try clear hcz6_0
              try clear hcz6_1
              try clear hcz6_2
              try clear hfz10_0
              try clear hfz10_1
              try clear hfz10_2
              try clear hfz16_0
              try clear hfz16_1
              try clear hfz16_2
              try clear hfz20_0
              try clear hfz20_1
              try clear hfz20_2
              try clear hfz25_0
              try clear hfz25_1
              try clear hfz25_2
              try clear hfz6_0
              try clear hfz6_1
              try clear hfz6_2
              obtain ⟨x7_1, x43_1, rfl, rfl, HA, HK1, BK202, HB⟩ := hrel
              cases gk with
              | zero => exact absurd HA.out (by simp [impl_clueOf.l0])
              | succ k1 =>
                have H := HA.out
                clear HA
                simp only [impl_clueOf.l0] at H
                by_cases c27 : x43_1 < (l2.length : Int)
                · rw [if_pos c27] at H
                  have c27b0 : decide (x43_1 < (l2.length : Int)) = true := decide_eq_true c27
                  clear c27
                  by_cases c28 : 0 ≤ x43_1
                  · rw [if_pos c28] at H
                    have c28b0 : decide (0 ≤ x43_1) = true := decide_eq_true c28
                    clear c28
                    by_cases c29 : x43_1 < (l2.length : Int)
                    · rw [if_pos c29] at H
                      have c29b0 : decide (x43_1 < (l2.length : Int)) = true := decide_eq_true c29
                      clear c29
                      by_cases c30 : (rd l2 x43_1) = a1
                      · rw [if_pos c30] at H
                        have c30b0 : ((rd l2 x43_1) == a1) = true := beq_iff_eq.mpr c30
                        have c30b1 : ((rd l2 x43_1) != a1) = false := bne_eq_false_iff_eq.mpr c30
                        clear c30
                        have H' := Aside0.mk H
                        clear H
                        have p207 : 0 ≤ (x43_1 : Int) := of_decide_eq_true (by first | (with_reducible assumption) | assumption)
                        have q207 : x43_1 < (l2.length : Int) := of_decide_eq_true (by first | (with_reducible assumption) | assumption)
                        obtain ⟨ad207, e207, hx207_0⟩ := Kd.at_int HR2.out x43_1 p207 q207
                        cases e207
                        replace hx207_0 := (HB.out.cell (World.block_lt_of_cell? w _ hx207_0)).trans hx207_0
                        replace p207 := eq_true p207
                        replace q207 := eq_true q207
                        go_wp2
                        go_roundg k1
                        case measure => have := HK1.out; omega
                        case rel => exact ⟨(wrap64 (x7_1 + 1)), (wrap64 (x43_1 + 1)), (by first | rfl | (simp; done) | (simp [*]; done)), (by first | rfl | (simp; done) | (simp [*]; done)), H', ⟨by have := HK1.out; omega⟩, ⟨by (with_reducible repeat (first | refine blk_drewN ?_ _ | refine blk_drew ?_ | refine blk_alloc ?_ _)); exact BK202.out⟩, ⟨by repeat (first | (with_reducible first | exact HB.out | apply below_alloc | apply pw_below_drewN | apply below_drew1 | refine below_set ?_ GE202.out) | exact HB.out)⟩⟩
                      · rw [if_neg c30] at H
                        have c30b0 : ((rd l2 x43_1) == a1) = false := beq_eq_false_iff_ne.mpr c30
                        have c30b1 : ((rd l2 x43_1) != a1) = true := bne_iff_ne.mpr c30
                        have H' := Aside0.mk H
                        clear H
                        have p207 : 0 ≤ (x43_1 : Int) := of_decide_eq_true (by first | (with_reducible assumption) | assumption)
                        have q207 : x43_1 < (l2.length : Int) := of_decide_eq_true (by first | (with_reducible assumption) | assumption)
                        obtain ⟨ad207, e207, hx207_0⟩ := Kd.at_int HR2.out x43_1 p207 q207
                        cases e207
                        replace hx207_0 := (HB.out.cell (World.block_lt_of_cell? w _ hx207_0)).trans hx207_0
                        replace p207 := eq_true p207
                        replace q207 := eq_true q207
                        go_wp2
                        go_roundg k1
                        case measure => have := HK1.out; omega
                        case rel => exact ⟨(x7_1), (wrap64 (x43_1 + 1)), (by first | rfl | (simp; done) | (simp [*]; done)), (by first | rfl | (simp; done) | (simp [*]; done)), H', ⟨by have := HK1.out; omega⟩, ⟨by (with_reducible repeat (first | refine blk_drewN ?_ _ | refine blk_drew ?_ | refine blk_alloc ?_ _)); exact BK202.out⟩, ⟨by repeat (first | (with_reducible first | exact HB.out | apply below_alloc | apply pw_below_drewN | apply below_drew1 | refine below_set ?_ GE202.out) | exact HB.out)⟩⟩
                    · rw [if_neg c29] at H
                      exact absurd H (by simp)
                  · rw [if_neg c28] at H
                    exact absurd H (by simp)
                · rw [if_neg c27] at H
                  have c27b0 : decide (x43_1 < (l2.length : Int)) = false := decide_eq_false c27
                  clear c27
                  simp only [Option.some.injEq, Prod.mk.injEq] at H
                  obtain ⟨rfl, rfl, rfl⟩ := H
                  have hcz31_0 : wr.cell? ⟨gb202, 0, none⟩ = some (.int .i64 0) := (blk_cell BK202.out 0).trans rfl
                  have hcz31_1 : wr.cell? ⟨gb202, 1, none⟩ = some (.int .i64 0) := (blk_cell BK202.out 1).trans rfl
                  have hcz31_2 : wr.cell? ⟨gb202, 2, none⟩ = some (.int .i64 0) := (blk_cell BK202.out 2).trans rfl
                  have hfz31_0 := blk_frozen BK202.out 0
                  have hfz31_1 := blk_frozen BK202.out 1
                  have hfz31_2 := blk_frozen BK202.out 2
                  go_wp2
                  refine bodyPost_ret (results_cell_row rfl _ _ gb202 76 #[.int .i64 5, .int .i64 a1, .int .i64 x7_1] (0, 0) _ rfl (by (with_reducible repeat (first | refine blk_drewN ?_ _ | refine blk_drew ?_ | refine blk_alloc ?_ _)); refine blk_put (cs := #[.int .i64 5, .int .i64 a1, .int .i64 0]) ?_ 2 _ rfl; (with_reducible repeat (first | refine blk_drewN ?_ _ | refine blk_drew ?_ | refine blk_alloc ?_ _)); refine blk_put (cs := #[.int .i64 5, .int .i64 0, .int .i64 0]) ?_ 1 _ rfl; (with_reducible repeat (first | refine blk_drewN ?_ _ | refine blk_drew ?_ | refine blk_alloc ?_ _)); refine blk_put (cs := #[.int .i64 0, .int .i64 0, .int .i64 0]) ?_ 0 _ rfl; (with_reducible repeat (first | refine blk_drewN ?_ _ | refine blk_drew ?_ | refine blk_alloc ?_ _)); exact BK202.out) Try.underlying76 rfl (by kernel_rfl)) rfl ?_
                  exact ⟨by first | rfl | (simp [errW_none, errW_some] <;> rfl) | (simp [*, errW_none, errW_some] <;> rfl), by repeat (first | (with_reducible first | exact HB.out | apply below_alloc | apply pw_below_drewN | apply below_drew1 | refine below_set ?_ GE202.out) | exact HB.out)⟩

/-! ### impl_solve_1_1: function 121 -/
-- GIVEN loop.example/g01305/impl.solve$1$1 raw=1
-- NEEDS loop.example/g01305/impl.clueOf
set_option maxHeartbeats 4000000 in
set_option maxRecDepth 100000 in
theorem solve_1_1 (k : Nat) (f0 f1 f2 r1 r2 r3 : Int) (A : Option Addr) (c : Nat) (l : List Int) (bl : Nat) (w : World) (hbl : bl < w.heap.size) (hcell : w.cell? ⟨bl, 0, none⟩ = some (.slice A l.length c)) (hC : Kd.C (Kd.int .i64) w A l.length l) (hc : l.length ≤ c)
    (h : impl_clueOf.f k f0 f1 l = some (r1, r2, r3)) :
    Calls Try.prog 121 #[.agg #[.int .i64 f0, .int .i64 f1, .int .i64 f2], .pointer (some ⟨bl, 0, none⟩)] w fun e w' => e = .returned (.bool (!(r1 == f0 && (r2 == f1 && r3 == f2)))) ∧ Below w.heap.size w w' := by
  have hu76 := Try.underlying76
  have HC := Aside0.mk hC
  have HCELL := Aside0.mk hcell
  have HH := Aside0.mk h
  clear hC h
  go_enter Try.func121, Try.ntmps121
  go_wp2_with fail
  have hb1 := (blk_cell (blk_new w (.cells #[.int .i64 f0, .int .i64 f1, .int .i64 f2] 76)) 0).trans rfl
  have hb2 := (blk_cell (blk_new w (.cells #[.int .i64 f0, .int .i64 f1, .int .i64 f2] 76)) 1).trans rfl
  have hb3 := (blk_cell (blk_new w (.cells #[.int .i64 f0, .int .i64 f1, .int .i64 f2] 76)) 2).trans rfl
  have hb4 := (Below.refl w.heap.size w).alloc (Nat.le_refl _) (.cells #[.int .i64 f0, .int .i64 f1, .int .i64 f2] 76)
  have hb5 := pw_cell_below hb4 hcell
  have HC1 := Aside0.mk (Kd.C_below HC.out hb4)
  generalize w.alloc (.cells #[.int .i64 f0, .int .i64 f1, .int .i64 f2] 76) = w1 at hb1 hb2 hb3 hb4 hb5 HC1 ⊢
  have HB4 := Aside0.mk hb4
  generalize w.heap.size = gB at hb1 hb2 hb3 ⊢
  clear hb4
  have fin : ∀ b : Bool, (!(r1 == f0 && (r2 == f1 && r3 == f2))) = b → Aside0 ((!(r1 == f0 && (r2 == f1 && r3 == f2))) = b) := fun _ h => ⟨h⟩
  by_cases e1 : r1 = f0
  · have c1 : (r1 == f0) = true := by simp [e1]
    by_cases e2 : r2 = f1
    · have c2 : (r2 == f1) = true := by simp [e2]
      by_cases e3 : r3 = f2
      · have c3 : (r3 == f2) = true := by simp [e3]
        have F := fin false (by rw [c1, c2, c3]; rfl)
        clear fin e1 e2 e3
        go_region_held_law (fun w' => w'.cell? ⟨gB, 0, none⟩ = some (.int .i64 f0) ∧ w'.cell? ⟨gB, 1, none⟩ = some (.int .i64 f1) ∧ w'.cell? ⟨gB, 2, none⟩ = some (.int .i64 f2) ∧ w'.cell? ⟨bl, 0, none⟩ = some (.slice A l.length c))
          (first | exact ⟨pw_cell_below HB6.out hb1, pw_cell_below HB6.out hb2, pw_cell_below HB6.out hb3, pw_cell_below HB6.out hb5⟩ | go_keep)
          (first | (go_at_call 62; refine (impl_clueOf.calls k f0 f1 A c l r1 r2 r3 _ (Kd.C_drew HC1.out) hc HH.out).mono ?_; rintro e w6 ⟨rfl, hb6⟩; have HB6 := Aside0.mk (below_step (below_drew (Below.refl w1.heap.size w1)) hb6); clear hb6))
        go_wp2
        go_ret
        exact ⟨by rw [F.out]; rfl, below_step HB4.out HB6.out⟩
      · have c3 : (r3 == f2) = false := by simp [e3]
        have F := fin true (by rw [c1, c2, c3]; rfl)
        clear fin e1 e2 e3
        go_region_held_law (fun w' => w'.cell? ⟨gB, 0, none⟩ = some (.int .i64 f0) ∧ w'.cell? ⟨gB, 1, none⟩ = some (.int .i64 f1) ∧ w'.cell? ⟨gB, 2, none⟩ = some (.int .i64 f2) ∧ w'.cell? ⟨bl, 0, none⟩ = some (.slice A l.length c))
          (first | exact ⟨pw_cell_below HB6.out hb1, pw_cell_below HB6.out hb2, pw_cell_below HB6.out hb3, pw_cell_below HB6.out hb5⟩ | go_keep)
          (first | (go_at_call 62; refine (impl_clueOf.calls k f0 f1 A c l r1 r2 r3 _ (Kd.C_drew HC1.out) hc HH.out).mono ?_; rintro e w6 ⟨rfl, hb6⟩; have HB6 := Aside0.mk (below_step (below_drew (Below.refl w1.heap.size w1)) hb6); clear hb6))
        go_wp2
        go_ret
        exact ⟨by rw [F.out]; rfl, below_step HB4.out HB6.out⟩
    · have c2 : (r2 == f1) = false := by simp [e2]
      have F := fin true (by rw [c1, c2]; rfl)
      clear fin e1 e2
      go_region_held_law (fun w' => w'.cell? ⟨gB, 0, none⟩ = some (.int .i64 f0) ∧ w'.cell? ⟨gB, 1, none⟩ = some (.int .i64 f1) ∧ w'.cell? ⟨gB, 2, none⟩ = some (.int .i64 f2) ∧ w'.cell? ⟨bl, 0, none⟩ = some (.slice A l.length c))
        (first | exact ⟨pw_cell_below HB6.out hb1, pw_cell_below HB6.out hb2, pw_cell_below HB6.out hb3, pw_cell_below HB6.out hb5⟩ | go_keep)
        (first | (go_at_call 62; refine (impl_clueOf.calls k f0 f1 A c l r1 r2 r3 _ (Kd.C_drew HC1.out) hc HH.out).mono ?_; rintro e w6 ⟨rfl, hb6⟩; have HB6 := Aside0.mk (below_step (below_drew (Below.refl w1.heap.size w1)) hb6); clear hb6))
      go_wp2
      go_ret
      exact ⟨by rw [F.out]; rfl, below_step HB4.out HB6.out⟩
  · have c1 : (r1 == f0) = false := by simp [e1]
    have F := fin true (by rw [c1]; rfl)
    clear fin e1
    go_region_held_law (fun w' => w'.cell? ⟨gB, 0, none⟩ = some (.int .i64 f0) ∧ w'.cell? ⟨gB, 1, none⟩ = some (.int .i64 f1) ∧ w'.cell? ⟨gB, 2, none⟩ = some (.int .i64 f2) ∧ w'.cell? ⟨bl, 0, none⟩ = some (.slice A l.length c))
      (first | exact ⟨pw_cell_below HB6.out hb1, pw_cell_below HB6.out hb2, pw_cell_below HB6.out hb3, pw_cell_below HB6.out hb5⟩ | go_keep)
      (first | (go_at_call 62; refine (impl_clueOf.calls k f0 f1 A c l r1 r2 r3 _ (Kd.C_drew HC1.out) hc HH.out).mono ?_; rintro e w6 ⟨rfl, hb6⟩; have HB6 := Aside0.mk (below_step (below_drew (Below.refl w1.heap.size w1)) hb6); clear hb6))
    go_wp2
    go_ret
    exact ⟨by rw [F.out]; rfl, below_step HB4.out HB6.out⟩


/-! ### impl_solve_1: function 120 -/
-- GIVEN loop.example/g01305/impl.solve$1 raw=1
-- NEEDS loop.example/g01305/impl.solve$1$1
/-- The first clue that a list does not fit, or -1. -/
def badO (k : Nat) (cs : List S76) (l : List Int) : Option Int := idxO (fun x : S76 => (impl_clueOf.f k x.f0 x.f1 l).bind fun r => some (!(r.1 == x.f0 && (r.2.1 == x.f1 && r.2.2 == x.f2)))) cs 0
theorem badO_mono (k : Nat) (cs : List S76) (l : List Int) : LeO (badO k cs l) (badO (k + 1) cs l) := idxO_le (fun x => LeO.bind (impl_clueOf.mono _ _ _ k) (fun _ => LeO.refl _)) _ _

set_option maxHeartbeats 4000000 in
set_option maxRecDepth 100000 in
theorem solve_1 (k : Nat) (cs : List S76) (Ac : Option Addr) (cc : Nat) (bc : Nat) (A : Option Addr) (c : Nat) (l : List Int) (w : World) (hcell : w.cell? ⟨bc, 0, none⟩ = some (.slice Ac cs.length cc)) (hCc : Kd.C k76 w Ac cs.length cs) (hcc : cs.length ≤ cc) (hC : Kd.C (Kd.int .i64) w A l.length l) (hc : l.length ≤ c)
    (r : Int) (h : badO k cs l = some r) :
    Calls Try.prog 120 #[.slice A l.length c, .pointer (some ⟨bc, 0, none⟩)] w fun e w' => e = .returned (.bool (decide (0 ≤ r))) ∧ Below w.heap.size w w' := by
  have hmf : ∀ (fn : Fn) (first cap : Array Value) (w : World), (Instr.makeFunc fn first cap).run Try.prog w = .ok (.func fn first cap) w := fun _ _ _ _ => rfl
  have hb4 := (Below.refl w.heap.size w).alloc (Nat.le_refl _) (.cells #[.slice A l.length c] 26)
  have hcl : (w.alloc (.cells #[.slice A l.length c] 26)).cell? ⟨w.heap.size, 0, none⟩ = some (.slice A l.length c) := (blk_cell (blk_new w (.cells #[.slice A l.length c] 26)) 0).trans rfl
  have hsz : w.heap.size < (w.alloc (.cells #[.slice A l.length c] 26)).heap.size := by simp
  have hp : PredC 121 #[.pointer (some ⟨w.heap.size, 0, none⟩)] (fun x : S76 => (impl_clueOf.f k x.f0 x.f1 l).bind fun r => some (!(r.1 == x.f0 && (r.2.1 == x.f1 && r.2.2 == x.f2)))) (w.alloc (.cells #[.slice A l.length c] 26)) := by
    intro W x t hb hx
    obtain ⟨⟨t1, t2, t3⟩, ht, hx⟩ := Option.bind_eq_some_iff.1 hx
    cases hx
    refine (solve_1_1 k x.f0 x.f1 x.f2 t1 t2 t3 A c l w.heap.size W (Nat.lt_of_lt_of_le hsz hb.size) (pw_cell_below hb hcl) (Kd.C_below (Kd.C_below hC hb4) hb) hc ht).mono ?_
    rintro e w' ⟨rfl, hb'⟩
    exact ⟨rfl, below_step hb hb'⟩
  have HP := Aside0.mk hp
  have HH := Aside0.mk h
  have HCC := Aside0.mk (Kd.C_below hCc hb4)
  have HB4 := Aside0.mk hb4
  have hcell1 := pw_cell_below hb4 hcell
  clear hp hcl hsz h hCc hC hb4
  go_enter Try.func120, Try.ntmps120
  go_wp2_with (go_at_call 115; refine (containsFunc_Clue _ r 121 _ (enters_of Try.func121 (by kernel_rfl) rfl) Ac cc cs _ HCC.out hcc HP.out HH.out).mono ?_; rintro e w' ⟨rfl, hb'⟩)
  go_ret
  exact ⟨rfl, below_step HB4.out hb'⟩


/-! ### impl_solve: function 67 -/
-- GIVEN loop.example/g01305/impl.solve rounds=1
-- NEEDS loop.example/g01305/impl.solve$1
/-- Those of the hidden pieces that fit all clues, if that can be told of each. -/
def impl_solve.f (k : Nat) (cs : List S76) : Option (List (List Int)) := if (hidL 4 [] 1).all (fun l => (badO k cs l).isSome) = true then some ((hidL 4 [] 1).filter fun l => !(decide (0 ≤ (badO k cs l).getD 0))) else none
theorem impl_solve.mono : ∀ (cs : List S76) k, LeO (impl_solve.f k cs) (impl_solve.f (k + 1) cs) := by
  intro cs k r h
  unfold impl_solve.f at h ⊢
  by_cases c : (hidL 4 [] 1).all (fun l => (badO k cs l).isSome) = true
  · rw [if_pos c] at h
    have e : ∀ l ∈ hidL 4 [] 1, badO (k + 1) cs l = badO k cs l := by
      intro l hl
      have := List.all_eq_true.1 c l hl
      obtain ⟨r, hr⟩ := Option.isSome_iff_exists.1 this
      rw [hr, badO_mono k cs l r hr]
    rw [if_pos, ← h]
    · congr 1
      exact List.filter_congr (fun l hl => by rw [e l hl])
    · exact List.all_eq_true.2 (fun l hl => by rw [e l hl]; exact List.all_eq_true.1 c l hl)
  · rw [if_neg c] at h; cases h

set_option maxHeartbeats 4000000 in
set_option maxRecDepth 100000 in
theorem impl_solve.calls (k : Nat) (A0 : Option Addr) (c0 : Nat) (l0 : List S76) (r : List (List Int)) (w : World) (hr0 : Kd.C k76 w A0 l0.length l0) (hc0 : l0.length ≤ c0) (h : impl_solve.f k l0 = some r) :
    Calls Try.prog 67 #[.slice A0 l0.length c0] w fun e w' => ∃ v0_ : Value, e = .returned (v0_) ∧ Kd.S (Kd.slice 3 (Kd.int .i64)) 26 w' w.heap.size (fun _ => True) v0_ r ∧ Below w.heap.size w w' := by
  have hmf : ∀ (fn : Fn) (first cap : Array Value) (w : World), (Instr.makeFunc fn first cap).run Try.prog w = .ok (.func fn first cap) w := fun _ _ _ _ => rfl
  unfold impl_solve.f at h
  by_cases c : (hidL 4 [] 1).all (fun l => (badO k l0 l).isSome) = true
  · rw [if_pos c] at h
    obtain rfl := Option.some.inj h
    clear h
    have hb4 := (Below.refl w.heap.size w).alloc (Nat.le_refl _) (.cells #[.slice A0 l0.length c0] 29)
    have hcl : (w.alloc (.cells #[.slice A0 l0.length c0] 29)).cell? ⟨w.heap.size, 0, none⟩ = some (.slice A0 l0.length c0) := (blk_cell (blk_new w (.cells #[.slice A0 l0.length c0] 29)) 0).trans rfl
    have hp : PredR 120 #[.pointer (some ⟨w.heap.size, 0, none⟩)] (fun l => decide (0 ≤ (badO k l0 l).getD 0)) (hidL 4 [] 1) (fun W => Below (w.alloc (.cells #[.slice A0 l0.length c0] 29)).heap.size (w.alloc (.cells #[.slice A0 l0.length c0] 29)) W) := by
      intro W A cc l hl hb hC hc
      obtain ⟨t, ht⟩ := Option.isSome_iff_exists.1 (List.all_eq_true.1 c l hl)
      have := solve_1 k l0 A0 c0 w.heap.size A cc l W (pw_cell_below hb hcl) (Kd.C_below (Kd.C_below hr0 hb4) hb) hc0 hC hc t ht
      have e : decide (0 ≤ (badO k l0 l).getD 0) = decide (0 ≤ t) := by rw [ht]; rfl
      show Calls Try.prog 120 _ W fun e w' => e = .returned (.bool (decide (0 ≤ (badO k l0 l).getD 0))) ∧ _
      rw [e]
      exact this
    have HP := Aside0.mk hp
    have HB4 := Aside0.mk hb4
    clear hp hcl hr0 hb4 c
    go_enter Try.func67, Try.ntmps67
    go_wp2_with (first | (go_at_call 119; refine (hidden_calls _).mono ?_; rintro e w2 ⟨v2, rfl, hs2, hb2⟩) | (go_at_call 118; refine (deleteFunc_rows _ 120 _ (enters_of Try.func120 (by kernel_rfl) rfl) _ v2 (hidL 4 [] 1) _ _ hs2 (Nat.le_of_ble_eq_true (by kernel_rfl)) hb2.size hb2 HP.out).mono ?_; rintro e w3 ⟨v3, rfl, hs3, hb3⟩))
    go_ret
    exact ⟨_, rfl, Kd.S_lower hs3 HB4.out.size, below_step HB4.out hb3⟩
  · rw [if_neg c] at h; cases h


/-! ### impl_Solutions: function 25 -/
def impl_Solutions.f (k : Nat) (l0_0 : List (S76)) : Option ((List (List Int)) × Bool) := (impl_IsPuzzle.f k l0_0).bind fun t209 => (if t209 = true then ((impl_solve.f k l0_0).bind fun t210 => (some (t210, true))) else (some (([] : List (List Int)), false)))
theorem impl_Solutions.mono : ∀ a0 k, LeO (impl_Solutions.f k a0) (impl_Solutions.f (k + 1) a0) := by
  intro a0 k
  unfold impl_Solutions.f
  repeat' first
      | (with_reducible exact impl_IsPuzzle.mono _ _)
      | (with_reducible exact impl_solve.mono _ _)
      | (with_reducible exact LeO.refl _)
      | (with_reducible exact LeO.none _)
      | (with_reducible refine LeO.ite ?_ ?_)
      | (with_reducible refine LeO.bind ?_ (fun _ => ?_))
      | exact impl_IsPuzzle.mono _ _
      | exact impl_solve.mono _ _
      | exact LeO.none _
      | refine LeO.ite ?_ ?_
      | refine LeO.bind ?_ (fun _ => ?_)
set_option maxHeartbeats 8000000 in
set_option maxRecDepth 100000 in
theorem impl_Solutions.calls (k : Nat) (A0_0 : Option Addr) (c0_0 : Nat) (l0_0 : List (S76)) (r1 : List (List Int)) (r2 : Bool) (w : World) (hr0_0 : Kd.C k76 w A0_0 l0_0.length l0_0) (hc0_0 : l0_0.length ≤ c0_0) (h : impl_Solutions.f k l0_0 = some (r1, r2)) :
    Calls Try.prog 25 #[.agg #[.slice A0_0 l0_0.length c0_0]] w fun e w' => ∃ v0_ : Value, e = .returned (.tuple #[v0_, .bool r2]) ∧ Kd.S (Kd.slice 3 (Kd.int .i64)) 26 w' w.heap.size (fun _ => True) v0_ r1 ∧ Below w.heap.size w w' := by
  have hu31 := Try.underlying31
  have HR0_0 := Aside0.mk hr0_0
  have HC0_0 := Aside0.mk hc0_0
  clear hr0_0 hc0_0
  have HB := Aside0.mk (Below.refl w.heap.size w)
  have H : ((impl_IsPuzzle.f k l0_0).bind fun t209 => (if t209 = true then ((impl_solve.f k l0_0).bind fun t210 => (some (t210, true))) else (some (([] : List (List Int)), false)))) = some (r1, r2) := h
  clear h
  replace H := Option.bind_eq_some_iff.mp H
  obtain ⟨t209, A20, H⟩ := H
  replace H : (if t209 = true then ((impl_solve.f k l0_0).bind fun t210 => (some (t210, true))) else (some (([] : List (List Int)), false))) = some (r1, r2) := H
  have A2 := Aside0.mk A20
  clear A20
  by_cases c3 : t209 = true
  · subst c3
    have H1 : ((impl_solve.f k l0_0).bind fun t210 => (some (t210, true))) = some (r1, r2) := by rw [if_pos rfl] at H; exact H
    clear H
    have H := H1
    clear H1
    replace H := Option.bind_eq_some_iff.mp H
    obtain ⟨t210, A40, H⟩ := H
    replace H : (some (t210, true)) = some (r1, r2) := H
    have A4 := Aside0.mk A40
    clear A40
    simp only [Option.some.injEq, Prod.mk.injEq] at H
    obtain ⟨rfl, rfl⟩ := H
    go_enter Try.func25, Try.ntmps25
    go_wp2_with (first | ((with_reducible refine gate_dst (N := 1) rfl ?_); refine box_event ?hg (N := 1) ?hd (cs := #[.slice A0_0 l0_0.length c0_0]) (t := 31) ?hr ?_; (case hd => rfl); (case hg => rfl); (case hr => first | (go_simp; done) | (go_simp; rfl)); intro gb208 hg w5 hbox hb; have n0_ := Aside0.mk (below_step (by repeat (first | (with_reducible first | exact HB.out | apply below_alloc | apply pw_below_drewN | apply below_drew1) | exact HB.out)) hb); have n1_ := Aside0.mk (hbox); have n2_ := Aside0.mk ((by rw [hg]; exact (below_size (by repeat (first | (with_reducible first | exact HB.out | apply below_alloc | apply pw_below_drewN | apply below_drew1) | exact HB.out))) : w.heap.size ≤ gb208)); have n3_ := Aside0.mk ((by rw [hg]; exact (below_size (by repeat (first | (with_reducible first | exact HB.out | apply below_alloc | apply pw_below_drewN | apply below_drew1) | exact HB.out))) : w.heap.size ≤ gb208)); clear HB; have HB := n0_; have BK208 := n1_; have GW208 := n2_; have GE208 := n3_; clear n0_ n1_ n2_ n3_; clear hb hbox hg; have hcz6_0 : w5.cell? ⟨gb208, 0, none⟩ = some (.slice A0_0 l0_0.length c0_0) := (blk_cell BK208.out 0).trans rfl; have hfz6_0 := blk_frozen BK208.out 0) | ((with_reducible refine gate_callee (f := 66) rfl ?_); refine goesL_ (some 5) rfl rfl Try.func66 (by kernel_rfl) rfl #[.agg #[.slice A0_0 l0_0.length c0_0]] rfl (by (try simp only [List.map_toArray, List.map_cons, List.map_nil]); first | done | rfl | (simp only [List.length_drop, List.length_take]; rfl)) ?_; (with_reducible refine (impl_IsPuzzle.calls k _ _ l0_0 true _ ?side1 ?side2 A2.out).mono ?_); (case side1 => repeat (first | exact (Kd.C_below HR0_0.out HB.out) | (with_reducible refine Kd.C_alloc ?_ _) | (with_reducible refine Kd.C_drewN ?_ _) | (with_reducible refine Kd.C_drew ?_))); (case side2 => exact HC0_0.out); rintro e w7 ⟨rfl, hb⟩; refine ⟨_, rfl, ?_⟩; have n0_ := Aside0.mk (blk_below (g := gb208) (o := .cells #[.slice A0_0 l0_0.length c0_0] 31 (0, 0)) (by (with_reducible repeat (first | refine blk_drewN ?_ _ | refine blk_drew ?_ | refine blk_alloc ?_ _)); exact BK208.out) hb); have n1_ := Aside0.mk (below_step (by repeat (first | (with_reducible first | exact HB.out | apply below_alloc | apply pw_below_drewN | apply below_drew1 | refine below_set ?_ GE208.out) | exact HB.out)) hb); clear BK208; clear HB; have BK208 := n0_; have HB := n1_; clear n0_ n1_; (try clear hb); (try clear hb2); (try clear hk); (try clear hi); have hcz8_0 : w7.cell? ⟨gb208, 0, none⟩ = some (.slice A0_0 l0_0.length c0_0) := (blk_cell BK208.out 0).trans rfl; have hfz8_0 := blk_frozen BK208.out 0) | ((with_reducible refine gate_callee (f := 67) rfl ?_); refine goesL_ (some 9) rfl rfl Try.func67 (by kernel_rfl) rfl #[.slice A0_0 l0_0.length c0_0] rfl (by (try simp only [List.map_toArray, List.map_cons, List.map_nil]); first | done | rfl | (simp only [List.length_drop, List.length_take]; rfl)) ?_; (with_reducible refine (impl_solve.calls k _ _ l0_0 t210 _ ?side1 ?side2 A4.out).mono ?_); (case side1 => repeat (first | exact (Kd.C_below HR0_0.out HB.out) | (with_reducible refine Kd.C_alloc ?_ _) | (with_reducible refine Kd.C_drewN ?_ _) | (with_reducible refine Kd.C_drew ?_))); (case side2 => exact HC0_0.out); rintro e w9 ⟨v211, rfl, ho0, hb⟩; refine ⟨_, rfl, ?_⟩; have n0_ := Aside0.mk (Kd.S_lower ho0 (below_size (by repeat (first | (with_reducible first | exact HB.out | apply below_alloc | apply pw_below_drewN | apply below_drew1 | refine below_set ?_ GE208.out) | exact HB.out)))); have n1_ := Aside0.mk (blk_below (g := gb208) (o := .cells #[.slice A0_0 l0_0.length c0_0] 31 (0, 0)) (by (with_reducible repeat (first | refine blk_drewN ?_ _ | refine blk_drew ?_ | refine blk_alloc ?_ _)); exact BK208.out) hb); have n2_ := Aside0.mk (below_step (by repeat (first | (with_reducible first | exact HB.out | apply below_alloc | apply pw_below_drewN | apply below_drew1 | refine below_set ?_ GE208.out) | exact HB.out)) hb); clear BK208; clear HB; have HO212 := n0_; have BK208 := n1_; have HB := n2_; clear n0_ n1_ n2_; (try clear hb); (try clear hb2); (try clear hk); (try clear hi); (try clear ho0)))
    go_ret2
    exact ⟨_, by first | rfl | (simp [errW_none, errW_some] <;> rfl) | (simp [*, errW_none, errW_some] <;> rfl), by (with_reducible repeat (first | apply Kd.S_alloc | apply Kd.S_drewN | apply Kd.S_drew)); exact HO212.out, by repeat (first | (with_reducible first | exact HB.out | apply below_alloc | apply pw_below_drewN | apply below_drew1 | refine below_set ?_ GE208.out) | exact HB.out)⟩
  · replace c3 := Bool.eq_false_iff.mpr c3
    subst c3
    have H1 : (some (([] : List (List Int)), false)) = some (r1, r2) := by rw [if_neg (show ¬ (false = true) by decide)] at H; exact H
    clear H
    have H := H1
    clear H1
    simp only [Option.some.injEq, Prod.mk.injEq] at H
    obtain ⟨rfl, rfl⟩ := H
    go_enter Try.func25, Try.ntmps25
    go_wp2_with (first | ((with_reducible refine gate_dst (N := 1) rfl ?_); refine box_event ?hg (N := 1) ?hd (cs := #[.slice A0_0 l0_0.length c0_0]) (t := 31) ?hr ?_; (case hd => rfl); (case hg => rfl); (case hr => first | (go_simp; done) | (go_simp; rfl)); intro gb208 hg w10 hbox hb; have n0_ := Aside0.mk (below_step (by repeat (first | (with_reducible first | exact HB.out | apply below_alloc | apply pw_below_drewN | apply below_drew1) | exact HB.out)) hb); have n1_ := Aside0.mk (hbox); have n2_ := Aside0.mk ((by rw [hg]; exact (below_size (by repeat (first | (with_reducible first | exact HB.out | apply below_alloc | apply pw_below_drewN | apply below_drew1) | exact HB.out))) : w.heap.size ≤ gb208)); have n3_ := Aside0.mk ((by rw [hg]; exact (below_size (by repeat (first | (with_reducible first | exact HB.out | apply below_alloc | apply pw_below_drewN | apply below_drew1) | exact HB.out))) : w.heap.size ≤ gb208)); clear HB; have HB := n0_; have BK208 := n1_; have GW208 := n2_; have GE208 := n3_; clear n0_ n1_ n2_ n3_; clear hb hbox hg; have hcz11_0 : w10.cell? ⟨gb208, 0, none⟩ = some (.slice A0_0 l0_0.length c0_0) := (blk_cell BK208.out 0).trans rfl; have hfz11_0 := blk_frozen BK208.out 0) | ((with_reducible refine gate_callee (f := 66) rfl ?_); refine goesL_ (some 5) rfl rfl Try.func66 (by kernel_rfl) rfl #[.agg #[.slice A0_0 l0_0.length c0_0]] rfl (by (try simp only [List.map_toArray, List.map_cons, List.map_nil]); first | done | rfl | (simp only [List.length_drop, List.length_take]; rfl)) ?_; (with_reducible refine (impl_IsPuzzle.calls k _ _ l0_0 false _ ?side1 ?side2 A2.out).mono ?_); (case side1 => repeat (first | exact (Kd.C_below HR0_0.out HB.out) | (with_reducible refine Kd.C_alloc ?_ _) | (with_reducible refine Kd.C_drewN ?_ _) | (with_reducible refine Kd.C_drew ?_))); (case side2 => exact HC0_0.out); rintro e w12 ⟨rfl, hb⟩; refine ⟨_, rfl, ?_⟩; have n0_ := Aside0.mk (blk_below (g := gb208) (o := .cells #[.slice A0_0 l0_0.length c0_0] 31 (0, 0)) (by (with_reducible repeat (first | refine blk_drewN ?_ _ | refine blk_drew ?_ | refine blk_alloc ?_ _)); exact BK208.out) hb); have n1_ := Aside0.mk (below_step (by repeat (first | (with_reducible first | exact HB.out | apply below_alloc | apply pw_below_drewN | apply below_drew1 | refine below_set ?_ GE208.out) | exact HB.out)) hb); clear BK208; clear HB; have BK208 := n0_; have HB := n1_; clear n0_ n1_; (try clear hb); (try clear hb2); (try clear hk); (try clear hi)))
    go_ret2
    exact ⟨_, by first | rfl | (simp [errW_none, errW_some] <;> rfl) | (simp [*, errW_none, errW_some] <;> rfl), by first | exact Kd.S_nil _ _ _ _ _ | exact Kd.N_nil _ _ _ _ _ | exact Kd.V_nil _ _ _ _ _ | exact Kd.Q_nil _ _ _ _ _ | exact Kd.R_nil _ _ _ _ _, by repeat (first | (with_reducible first | exact HB.out | apply below_alloc | apply pw_below_drewN | apply below_drew1 | refine below_set ?_ GE208.out) | exact HB.out)⟩

/-! ### bits_Mul32: function 149 -/
def bits_Mul32.f (a0 : Int) (a1 : Int) : Option (Int × Int) := some (((IntKind.u64.wrap ((IntKind.u64.wrap (a0)) * (IntKind.u64.wrap (a1)))) / 4294967296) % 4294967296, (IntKind.u64.wrap ((IntKind.u64.wrap (a0)) * (IntKind.u64.wrap (a1)))) % 4294967296)
set_option maxHeartbeats 8000000 in
set_option maxRecDepth 100000 in
theorem bits_Mul32.calls (a0 : Int) (a1 : Int) (r1 : Int) (r2 : Int) (w : World) (h : bits_Mul32.f a0 a1 = some (r1, r2)) :
    Calls Try.prog 149 #[.int .u32 a0, .int .u32 a1] w fun e w' => e = .returned (.tuple #[.int .u32 r1, .int .u32 r2]) ∧ Drawn0 w w' := by
  have H : (some (((IntKind.u64.wrap ((IntKind.u64.wrap (a0)) * (IntKind.u64.wrap (a1)))) / 4294967296) % 4294967296, (IntKind.u64.wrap ((IntKind.u64.wrap (a0)) * (IntKind.u64.wrap (a1)))) % 4294967296)) = some (r1, r2) := h
  clear h
  simp only [Option.some.injEq, Prod.mk.injEq] at H
  obtain ⟨rfl, rfl⟩ := H
  go_enter Try.func149, Try.ntmps149
  go_wp2
  go_ret2
  exact ⟨by first | rfl | (simp; done) | (simp [*]; done), by repeat (first | exact Drawn0.refl _ | apply Drawn0.step)⟩

/-! ### bits_Mul64: function 150 -/
def bits_Mul64.f (a0 : Int) (a1 : Int) : Option (Int × Int) := some (IntKind.u64.wrap ((IntKind.u64.wrap ((IntKind.u64.wrap ((a0 / 4294967296) * (a1 / 4294967296))) + ((IntKind.u64.wrap ((IntKind.u64.wrap ((a0 / 4294967296) * (Go.bits .and .u64 a1 4294967295))) + ((IntKind.u64.wrap ((Go.bits .and .u64 a0 4294967295) * (Go.bits .and .u64 a1 4294967295))) / 4294967296))) / 4294967296))) + ((IntKind.u64.wrap ((Go.bits .and .u64 (IntKind.u64.wrap ((IntKind.u64.wrap ((a0 / 4294967296) * (Go.bits .and .u64 a1 4294967295))) + ((IntKind.u64.wrap ((Go.bits .and .u64 a0 4294967295) * (Go.bits .and .u64 a1 4294967295))) / 4294967296))) 4294967295) + (IntKind.u64.wrap ((Go.bits .and .u64 a0 4294967295) * (a1 / 4294967296))))) / 4294967296)), IntKind.u64.wrap (a0 * a1))
set_option maxHeartbeats 8000000 in
set_option maxRecDepth 100000 in
theorem bits_Mul64.calls (a0 : Int) (a1 : Int) (r1 : Int) (r2 : Int) (w : World) (h : bits_Mul64.f a0 a1 = some (r1, r2)) :
    Calls Try.prog 150 #[.int .u64 a0, .int .u64 a1] w fun e w' => e = .returned (.tuple #[.int .u64 r1, .int .u64 r2]) ∧ Drawn0 w w' := by
  have H : (some (IntKind.u64.wrap ((IntKind.u64.wrap ((IntKind.u64.wrap ((a0 / 4294967296) * (a1 / 4294967296))) + ((IntKind.u64.wrap ((IntKind.u64.wrap ((a0 / 4294967296) * (Go.bits .and .u64 a1 4294967295))) + ((IntKind.u64.wrap ((Go.bits .and .u64 a0 4294967295) * (Go.bits .and .u64 a1 4294967295))) / 4294967296))) / 4294967296))) + ((IntKind.u64.wrap ((Go.bits .and .u64 (IntKind.u64.wrap ((IntKind.u64.wrap ((a0 / 4294967296) * (Go.bits .and .u64 a1 4294967295))) + ((IntKind.u64.wrap ((Go.bits .and .u64 a0 4294967295) * (Go.bits .and .u64 a1 4294967295))) / 4294967296))) 4294967295) + (IntKind.u64.wrap ((Go.bits .and .u64 a0 4294967295) * (a1 / 4294967296))))) / 4294967296)), IntKind.u64.wrap (a0 * a1))) = some (r1, r2) := h
  clear h
  simp only [Option.some.injEq, Prod.mk.injEq] at H
  obtain ⟨rfl, rfl⟩ := H
  go_enter Try.func150, Try.ntmps150
  go_wp2
  go_ret2
  exact ⟨by first | rfl | (simp; done) | (simp [*]; done), by repeat (first | exact Drawn0.refl _ | apply Drawn0.step)⟩

/-! ### bits_Mul: function 113 -/
def bits_Mul.f (a0 : Int) (a1 : Int) : Option (Int × Int) := (bits_Mul64.f a0 a1).bind fun bt213 => (some (bt213.1, bt213.2))
set_option maxHeartbeats 8000000 in
set_option maxRecDepth 100000 in
theorem bits_Mul.calls (a0 : Int) (a1 : Int) (r1 : Int) (r2 : Int) (w : World) (h : bits_Mul.f a0 a1 = some (r1, r2)) :
    Calls Try.prog 113 #[.int .u64 a0, .int .u64 a1] w fun e w' => e = .returned (.tuple #[.int .u64 r1, .int .u64 r2]) ∧ Drawn0 w w' := by
  have H : ((bits_Mul64.f a0 a1).bind fun bt213 => (some (bt213.1, bt213.2))) = some (r1, r2) := h
  clear h
  replace H := Option.bind_eq_some_iff.mp H
  obtain ⟨⟨t213, t214⟩, A30, H⟩ := H
  replace H : (some (t213, t214)) = some (r1, r2) := H
  have A3 := Aside0.mk A30
  clear A30
  simp only [Option.some.injEq, Prod.mk.injEq] at H
  obtain ⟨rfl, rfl⟩ := H
  go_enter Try.func113, Try.ntmps113
  go_wp2_with (first | ((with_reducible refine gate_callee (f := 150) rfl ?_); refine goesL_ (some 25) rfl rfl Try.func150 (by kernel_rfl) rfl #[.int .u64 a0, .int .u64 a1] rfl (by (try simp only [List.map_toArray, List.map_cons, List.map_nil]); first | done | rfl | (simp only [List.length_drop, List.length_take]; rfl)) ?_; (with_reducible refine (bits_Mul64.calls a0 a1 t213 t214 _ A3.out).mono ?_); rintro e w' ⟨rfl, ⟨nd, rfl⟩⟩; refine ⟨_, rfl, ?_⟩))
  go_ret2
  exact ⟨by first | rfl | (simp; done) | (simp [*]; done), by repeat (first | exact Drawn0.refl _ | apply Drawn0.step)⟩

/-! ### slices_Repeat_int_int: function 63 -/
-- GIVEN slices.Repeat[[]int,int]
-- USES delete
set_option maxHeartbeats 2000000 in
set_option maxRecDepth 100000 in
theorem repeat_one (x : Int) (c0 : Nat) (A0 : Option Addr) (a1 : Int) (h0 : 0 ≤ a1) (h4 : a1 ≤ 1000) (w : World) (hr0 : Kd.C (Kd.int .i64) w A0 1 [x]) (hc0 : 1 ≤ c0)
    (hMul : ∀ W : World, Calls Try.prog 113 #[.int .u64 1, .int .u64 a1] W fun e w' => e = .returned (.tuple #[.int .u64 0, .int .u64 a1]) ∧ Below W.heap.size W w') :
    Calls Try.prog 63 #[.slice A0 1 c0, .int .i64 a1] w fun e w' => ∃ v0_, e = .returned v0_ ∧ Kd.R (Kd.int .i64) 3 w' w.heap.size (fun _ => True) v0_ (List.replicate a1.toNat x) ∧ Below w.heap.size w w' := by
  obtain ⟨n, rfl⟩ := Int.eq_ofNat_of_zero_le h0
  have HR0 := Aside0.mk hr0
  have HM := Aside0.mk hMul
  have h1 : ¬ (n : Int) < 0 := by omega
  have h1d := decide_eq_false h1
  have hbg : ¬ (n : Int) > 9223372036854775807 := by omega
  have hbgd := decide_eq_false hbg
  clear hr0 hMul
  go_enter Try.func63, Try.ntmps63
  go_wp2_with (first
    | (go_at_call 113; refine (HM.out _).mono ?_; rintro e w1 ⟨rfl, hb1⟩; have HB1 := Aside0.mk hb1; clear hb1)
    | ((with_reducible refine gate_dst (N := 30) rfl ?_); refine Aside0.out ?_))
  refine Aside0.mk ?_
  refine Kd.R_make (Kd.int .i64) w1.heap.size 3 rfl (N := 30) rfl 26 _ _ rfl (n : Int) rfl rfl Try.underlying26 (.int .i64 0) 8 info3 rfl (by decide) (by omega) 0 (ok := fun _ => True) (okp := fun _ => True) rfl (fun _ hk => hk) trivial h0 (by omega) (Below.refl _ _) (Nat.le_refl _) ?_
  intro v7 w7 ho7 hb7 hg7 hn7
  obtain ⟨A7, c7, e7⟩ := Kd.R_slice ho7
  rw [List.length_replicate] at e7
  subst e7
  have HO7 := Aside0.mk ho7
  have HB7 := Aside0.mk hb7
  clear ho7 hb7 hg7 hn7
  rw [Int.toNat_natCast] at HO7 ⊢
  rcases Nat.eq_zero_or_pos n with hp | hp
  · subst hp
    have hcp : ∀ ty, (Builtin.copy_ #[26, 26] ty #[.slice A7 0 c7, .slice A0 1 c0]).run Try.prog w7 = .ok (goInt 0) w7 := fun ty => run_copy_none w7 26 26 ty 3 A7 A0 0 c7 1 c0 Try.underlying26 (by kernel_rfl) (by decide)
    have HCP := hcp 3
    clear h1 h1d hbg hbgd h4 h0 hcp
    go_wp2
    go_loopg [8] 0 (fun gg s8 wr => s8 = .int .i64 0 ∧ Aside0 (wr = w7))
    case atStart => exact ⟨rfl, ⟨rfl⟩⟩
    case round =>
      obtain ⟨rfl, HW⟩ := hrel
      have hw := HW.out
      subst hw
      go_wp2
      go_ret
      exact ⟨_, rfl, Kd.R_lower HO7.out HB1.out.size, below_step HB1.out HB7.out⟩
  · obtain ⟨hok, inner, ⟨hil, ho2⟩, hrep⟩ := HO7.out
    rcases ho2 with ⟨h, _⟩ | ⟨g, cap, cur, h, hbg, hh, hnc, hcm, hcs, hct⟩
    · injection h with _ h _; omega
    injection h with h1' h2' h3
    clear h2'
    subst h1'; subst h3
    rw [List.length_replicate] at hnc hct hil
    have hsz : (Kd.int .i64).sz = 1 := rfl
    rw [hsz, Nat.mul_one] at hct hil hcs
    have hcell : ∀ j, j < c7 → (w7.cell? ⟨g, j, none⟩).isSome = true := fun j hj => by rw [blk_cell hh, Array.getElem?_eq_getElem (by omega)]; rfl
    have hfz : ∀ j, w7.frozen? ⟨g, j, none⟩ = false := fun j => blk_frozen hh j
    obtain ⟨ad0, e1, hx0⟩ := Kd.at_int (Kd.C_below HR0.out (below_step HB1.out HB7.out)) 0 (by omega) (by omega)
    cases e1
    have hcp : ∀ ty, (Builtin.copy_ #[26, 26] ty #[.slice (some ⟨g, 0, none⟩) n c7, .slice (some ad0) 1 c0]).run Try.prog w7 = .ok (goInt 1) (w7.setCells g 0 [.int .i64 x]) := fun ty =>
      run_copy_cells w7 26 26 ty 3 g 0 n c7 ad0 1 c0 [.int .i64 x] Try.underlying26 (by kernel_rfl) (by show 1 = min 1 n; omega) (fun j v hj => by
        match j, hj with
        | 0, hj => obtain rfl := Option.some.inj hj; exact hx0) (fun j hj => by simp at hj; exact hcell _ (by omega)) (fun j hj => hfz _) (fun v hv => by simp at hv; rw [hv]; rfl)
    have HH := Aside0.mk hh
    have HCS := Aside0.mk hcs
    have HNC := Aside0.mk hnc
    have HCM := Aside0.mk hcm
    have HBG := Aside0.mk hbg
    have hcp1 := hcp 3
    clear hh hcs hnc hcm hbg hct hil hrep hok hcell hfz hx0 hcp hsz HO7
    clear h1 h1d hbgd h4 h0 hc0 HM
    go_wp2
    obtain ⟨cur1, hb1, hs1, hc1⟩ := blk_cells [Value.int .i64 x] 0 w7 cur HH.out
    have HHB := Aside0.mk hb1
    have HHS : Aside0 (cur1.size = c7) := ⟨by rw [hs1]; exact HCS.out⟩
    have HHC : Aside0 (∀ t, t < 1 → cur1[t]? = some (.int .i64 x)) := ⟨fun t ht => by
      have := HCS.out; have := HNC.out
      rw [hc1 t (by omega), if_pos (by simp; omega), show t - 0 = 0 by omega]; rfl⟩
    have hgw : w.heap.size ≤ g := Nat.le_trans HB1.out.size HBG.out
    have HWB : Aside0 (Below w.heap.size w (w7.setCells g 0 [.int .i64 x])) := ⟨(below_step HB1.out HB7.out).grown (own_cells _ _ _) (Nat.le_trans HB1.out.size HB7.out.size) (fun k e => by cases e; exact hgw)⟩
    have HGW := Aside0.mk hgw
    clear hb1 hs1 hc1 hgw hcp1
    go_loopg [8] n (fun gg s8 wr => ∃ (m : Nat) (cur : Array Value), s8 = .int .i64 m ∧ Aside0 (1 ≤ m ∧ m ≤ n ∧ n - m ≤ gg) ∧ Aside0 (wr.heap[g]? = some (.cells cur 3 (0, 0))) ∧ Aside0 (cur.size = c7) ∧ Aside0 (∀ t, t < m → cur[t]? = some (.int .i64 x)) ∧ Aside0 (Below w.heap.size w wr))
    case atStart => exact ⟨1, cur1, rfl, ⟨by omega, by omega, by omega⟩, HHB, HHS, HHC, HWB⟩
    case round =>
      clear HHB HHS HHC HWB HH HCS
      obtain ⟨m, cur2, rfl, HM1, HB2, HS2, HC2, HW2⟩ := hrel
      have ⟨hm1, hm2, hm3⟩ := HM1.out
      by_cases hlt : m < n
      · have hltz : (m : Int) < (n : Int) := by omega
        have hmz : (m : Int) ≤ (n : Int) := by omega
        have hnz : (n : Int) ≤ (c7 : Int) := by have := HNC.out; omega
        have hmc : (m : Int) ≤ (c7 : Int) := by omega
        have hm0 : (0 : Int) ≤ (m : Int) := by omega
        have hmne : ¬ c7 = m := by have := HNC.out; omega
        obtain ⟨kk, hkk⟩ : ∃ kk, kk = min m (n - m) := ⟨_, rfl⟩
        have hcp : ∀ ty, (Builtin.copy_ #[26, 26] ty #[.slice (some ⟨g, m, none⟩) (n - m) (c7 - m), .slice (some ⟨g, 0, none⟩) m c7]).run Try.prog wr.drew = .ok (goInt kk) (wr.drew.setCells g m (List.replicate kk (.int .i64 x))) := fun ty => by
          have := run_copy_cells (P := Try.prog) wr.drew 26 26 ty 3 g m (n - m) (c7 - m) ⟨g, 0, none⟩ m c7 (List.replicate kk (.int .i64 x)) Try.underlying26 (by kernel_rfl) (by rw [List.length_replicate]; exact hkk) (fun j v hj => by
            have hj1 : j < kk := by have := (List.getElem?_eq_some_iff.1 hj).1; rwa [List.length_replicate] at this
            rw [List.getElem?_replicate, if_pos hj1] at hj
            obtain rfl := Option.some.inj hj
            rw [Addr.add_lit, Nat.zero_add]
            exact (blk_cell HB2.out j).trans (HC2.out j (by omega))) (fun j hj => by
            rw [List.length_replicate] at hj
            show (wr.cell? ⟨g, m + j, none⟩).isSome = true
            rw [blk_cell HB2.out, Array.getElem?_eq_getElem (by rw [HS2.out]; have := HNC.out; omega)]; rfl) (fun j hj => blk_frozen HB2.out _) (fun v hv => by rw [List.eq_of_mem_replicate hv]; rfl)
          rw [List.length_replicate] at this
          exact this
        have HKK := Aside0.mk hkk
        have hcp1 := hcp 3
        clear hkk hcp hm1 hm2 hm3
        go_wp2_with fail
        go_region_law (fail)
        all_goals go_wp2
        all_goals
          go_roundg (gk - 1)
          case measure => have := HM1.out; omega
          case rel =>
            have ⟨hm1, hm2, hm3⟩ := HM1.out
            have hk := HKK.out
            obtain ⟨cur3, hb3, hs3, hc3⟩ := blk_cells (List.replicate kk (Value.int .i64 x)) m wr.drew cur2 HB2.out
            refine ⟨m + kk, cur3, (by first | rfl | (rw [show IntKind.i64.wrap ((m : Int) + (kk : Int)) = ((m + kk : Nat) : Int) by rw [i64_w]; unfold wrap64; omega])), ⟨by omega, by omega, by omega⟩, ⟨hb3⟩, ⟨by rw [hs3]; exact HS2.out⟩, ⟨fun t ht => ?_⟩, ⟨?_⟩⟩
            · have := HNC.out
              rw [hc3 t (by rw [HS2.out]; omega)]
              by_cases c : m ≤ t
              · rw [if_pos (by rw [List.length_replicate]; omega), List.getElem?_replicate, if_pos (by omega)]
              · rw [if_neg (by omega)]; exact HC2.out t (by omega)
            · exact (below_drew1 HW2.out).grown (own_cells _ _ _) HW2.out.size (fun k e => by cases e; exact HGW.out)
      · have hltz : ¬ (m : Int) < (n : Int) := by omega
        have hmn : m = n := by omega
        clear hm3
        go_wp2
        go_ret
        subst hmn
        refine ⟨_, rfl, ⟨fun _ _ => trivial, List.replicate m (.int .i64 x), ⟨?_, .inr ⟨g, c7, cur2, ?_, HGW.out, HB2.out, ?_, ?_, ?_, ?_⟩⟩, ?_, ?_⟩, HW2.out⟩
        · rw [List.length_replicate, List.length_replicate]; show m = m * 1; omega
        · rw [List.length_replicate]; rfl
        · rw [List.length_replicate]; exact HNC.out
        · exact HCM.out
        · rw [HS2.out]; show c7 = c7 * 1; omega
        · rw [List.length_replicate]
          show cur2.toList.take (m * 1) = _
          rw [Nat.mul_one]
          apply List.ext_getElem?
          intro t
          by_cases c : t < m
          · rw [List.getElem?_take_of_lt c, Array.getElem?_toList, HC2.out t c, List.getElem?_replicate, if_pos c]
          · rw [List.getElem?_eq_none (by rw [List.length_take]; omega), List.getElem?_eq_none (by rw [List.length_replicate]; omega)]
        · rw [List.length_replicate, List.length_replicate]; show m = m * 1; omega
        · intro j p hj
          have hj1 : j < m := by have := (List.getElem?_eq_some_iff.1 hj).1; rwa [List.length_replicate] at this
          rw [List.getElem?_replicate, if_pos hj1] at hj
          obtain rfl := Option.some.inj hj
          show ((List.replicate m (Value.int .i64 x)).drop (j * 1)).take 1 = [Value.int .i64 x]
          rw [Nat.mul_one, List.drop_replicate, List.take_replicate, show min 1 (m - j) = 1 by omega]
          rfl
def slices_Repeat_int_int.f (l0 : List Int) (a1 : Int) : Option (List Int) := if l0.length = 1 then (if 0 ≤ a1 then (if a1 ≤ 1000 then (if bits_Mul.f 1 a1 = some (0, a1) then some (List.replicate a1.toNat (rd l0 0)) else none) else none) else none) else none
theorem slices_Repeat_int_int.calls (A0 : Option Addr) (c0 : Nat) (l0 : List Int) (a1 : Int) (r : List Int) (w : World) (hr0 : Kd.C (Kd.int .i64) w A0 l0.length l0) (hc0 : l0.length ≤ c0) (h : slices_Repeat_int_int.f l0 a1 = some r) :
    Calls Try.prog 63 #[.slice A0 l0.length c0, .int .i64 a1] w fun e w' => ∃ v0_ : Value, e = .returned (v0_) ∧ Kd.R (Kd.int .i64) 3 w' w.heap.size (fun _ => True) v0_ r ∧ Below w.heap.size w w' := by
  unfold slices_Repeat_int_int.f at h
  by_cases h1 : l0.length = 1
  · rw [if_pos h1] at h
    by_cases h2 : 0 ≤ a1
    · rw [if_pos h2] at h
      by_cases h3 : a1 ≤ 1000
      · rw [if_pos h3] at h
        by_cases h4 : bits_Mul.f 1 a1 = some (0, a1)
        · rw [if_pos h4] at h
          obtain rfl := Option.some.inj h
          obtain ⟨x, rfl⟩ := List.length_eq_one_iff.1 h1
          exact repeat_one x c0 A0 a1 h2 h3 w hr0 hc0 (fun W => (bits_Mul.calls 1 a1 0 a1 W h4).mono (by rintro e w' ⟨rfl, ⟨nd, rfl⟩⟩; exact ⟨rfl, pw_below_drewN (Below.refl _ _) nd⟩))
        · rw [if_neg h4] at h; cases h
      · rw [if_neg h3] at h; cases h
    · rw [if_neg h2] at h; cases h
  · rw [if_neg h1] at h; cases h


end Go.Proofs.Ytfiikhdkohgmfaa.PFnExactSurePieces
