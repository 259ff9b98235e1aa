-- MADE FOR THIS CLAIM by wip/xp/xprint.py (with the kit's print; some functions' contracts proved by hand)
import Derived.Test.YtbpmakcgiepkhaaPFnExactFirstCutsx0
import Derived.Test.YtbpmakcgiepkhaaPFnExactFirstCutsx1
namespace Go.Proofs.Ytbpmakcgiepkhaa.PFnExactFirstCuts
open Go.RowKit Go.Proofs.YtbpmakcgiepkhaaW.PrintWords Go.Proofs.YtbpmakcgiepkhaaW.PrintLast Go.Proofs.YtbpmakcgiepkhaaW.PrintMore
attribute [local go_sem] max2_int min2_int max_two min_two max_three min_three max_four min_four   -- for this text's walks alone
set_option linter.unusedVariables false
set_option linter.unusedSimpArgs false

/-! ### spec_chSorted: function 39 -/
def spec_chSorted.l0 : Nat → List Int → List Int → Int → Int → Option (List Int)
  | 0, _, _, _, _ => none
  | k + 1, x3, x6, x7, x8 => if x8 < x7 then (if 0 ≤ x8 then (if x8 < (x6.length : Int) then ((spec_piPut.f k x3 (rd x6 x8)).bind fun t138 => (spec_chSorted.l0 k t138 x6 x7 (wrap64 (x8 + 1)))) else (none)) else (none)) else (some x3)
def spec_chSorted.f (k : Nat) (l0 : List Int) : Option (List Int) := spec_chSorted.l0 k ([] : List Int) l0 (l0.length : Int) 0
theorem spec_chSorted.mono_l : ∀ k, (∀ y0 y1 y2 y3, LeO (spec_chSorted.l0 k y0 y1 y2 y3) (spec_chSorted.l0 (k + 1) y0 y1 y2 y3))
  | 0 => fun _ _ _ _ r h => by simp [spec_chSorted.l0] at h
  | k + 1 => by
    have ih0 := spec_chSorted.mono_l k
    · intro y0 y1 y2 y3
      unfold spec_chSorted.l0
      repeat' first
      | (with_reducible exact ih0 _ _ _ _)
      | (with_reducible exact spec_piPut.mono _ _ _)
      | (with_reducible exact LeO.refl _)
      | (with_reducible exact LeO.none _)
      | (with_reducible refine LeO.ite ?_ ?_)
      | (with_reducible refine LeO.bind ?_ (fun _ => ?_))
      | exact ih0 _ _ _ _
      | exact spec_piPut.mono _ _ _
      | exact LeO.none _
      | refine LeO.ite ?_ ?_
      | refine LeO.bind ?_ (fun _ => ?_)
theorem spec_chSorted.mono : ∀ a0 k, LeO (spec_chSorted.f k a0) (spec_chSorted.f (k + 1) a0) := by
  intro a0 k
  have ih0 := spec_chSorted.mono_l k
  unfold spec_chSorted.f
  repeat' first
      | (with_reducible exact ih0 _ _ _ _)
      | (with_reducible exact spec_piPut.mono _ _ _)
      | (with_reducible exact LeO.refl _)
      | (with_reducible exact LeO.none _)
      | (with_reducible refine LeO.ite ?_ ?_)
      | (with_reducible refine LeO.bind ?_ (fun _ => ?_))
      | exact ih0 _ _ _ _
      | exact spec_piPut.mono _ _ _
      | exact LeO.none _
      | refine LeO.ite ?_ ?_
      | refine LeO.bind ?_ (fun _ => ?_)
set_option maxHeartbeats 8000000 in
set_option maxRecDepth 100000 in
theorem spec_chSorted.calls (k : Nat) (A0 : Option Addr) (c0 : Nat) (l0 : List Int) (r : List Int) (w : World) (hr0 : Kd.C (Kd.int .i64) w A0 l0.length l0) (hc0 : l0.length ≤ c0) (h : spec_chSorted.f k l0 = some r) :
    Calls Try.prog 39 #[.slice A0 l0.length c0] w fun e w' => ∃ v0_ : Value, e = .returned (v0_) ∧ Kd.R (Kd.int .i64) 3 w' w.heap.size (fun _ => True) v0_ r ∧ Below w.heap.size w w' := by
  have HR0 := Aside0.mk hr0
  have HC0 := Aside0.mk hc0
  clear hr0 hc0
  have HB := Aside0.mk (Below.refl w.heap.size w)
  have H : (spec_chSorted.l0 k ([] : List Int) l0 (l0.length : Int) 0) = some r := h
  clear h
  have H' := Aside0.mk H
  clear H
  go_enter Try.func39, Try.ntmps39
  go_wp2
  go_loopg [3, 8] k (fun kq v3 v8 w' => ∃ (x3_1 : List Int) (x8_1 : Int), v8 = .int .i64 x8_1 ∧ Aside0 (spec_chSorted.l0 kq x3_1 l0 (l0.length : Int) x8_1 = some r) ∧ Aside0 (kq ≤ k) ∧ Aside0 (Kd.R (Kd.int .i64) 3 w' w.heap.size (fun _ => True) v3 x3_1) ∧ Aside0 (Below w.heap.size w w'))
  case atStart => exact ⟨(([] : List Int)), (0), (by first | rfl | (simp; done) | (simp [*]; done)), H', ⟨Nat.le_refl _⟩, ⟨by first | exact Kd.R_nil _ _ _ _ _ | exact Kd.N_nil _ _ _ _ _ | exact Kd.V_nil _ _ _ _ _ | exact Kd.Q_nil _ _ _ _ _ | exact Kd.S_nil _ _ _ _ _⟩, ⟨by repeat (first | (with_reducible first | exact HB.out | apply below_alloc | apply pw_below_drewN | apply below_drew1) | exact HB.out)⟩⟩
  case round =>
    clear H'
    obtain ⟨x3_1, x8_1, rfl, HA, HK1, HO_3, HB⟩ := hrel
    cases gk with
    | zero => exact absurd HA.out (by simp [spec_chSorted.l0])
    | succ k1 =>
      have H := HA.out
      clear HA
      simp only [spec_chSorted.l0] at H
      by_cases c2 : x8_1 < (l0.length : Int)
      · rw [if_pos c2] at H
        have c2b0 : decide (x8_1 < (l0.length : Int)) = true := decide_eq_true c2
        clear c2
        by_cases c3 : 0 ≤ x8_1
        · rw [if_pos c3] at H
          have c3b0 : decide (0 ≤ x8_1) = true := decide_eq_true c3
          clear c3
          by_cases c4 : x8_1 < (l0.length : Int)
          · rw [if_pos c4] at H
            have c4b0 : decide (x8_1 < (l0.length : Int)) = true := decide_eq_true c4
            clear c4
            replace H := Option.bind_eq_some_iff.mp H
            obtain ⟨t138, A50, H⟩ := H
            replace H : (spec_chSorted.l0 k1 t138 l0 (l0.length : Int) (wrap64 (x8_1 + 1))) = some r := H
            have A5 := Aside0.mk A50
            clear A50
            have H' := Aside0.mk H
            clear H
            have p137 : 0 ≤ (x8_1 : Int) := of_decide_eq_true (by first | (with_reducible assumption) | assumption)
            have q137 : x8_1 < (l0.length : Int) := of_decide_eq_true (by first | (with_reducible assumption) | assumption)
            obtain ⟨ad137, e137, hx137_0⟩ := Kd.at_int HR0.out x8_1 p137 q137
            cases e137
            replace hx137_0 := (HB.out.cell (World.block_lt_of_cell? w _ hx137_0)).trans hx137_0
            replace p137 := eq_true p137
            replace q137 := eq_true q137
            obtain ⟨Ao6, co6, eo6⟩ := Kd.R_slice HO_3.out
            subst eo6
            go_wp2_with (first | ((with_reducible refine gate_callee (f := 46) rfl ?_); refine goesL_ (some 14) rfl rfl Try.func46 (by kernel_rfl) rfl #[.slice Ao6 x3_1.length co6, .int .i64 (rd l0 x8_1)] rfl (by (try simp only [List.map_toArray, List.map_cons, List.map_nil]); first | done | rfl | (simp only [List.length_drop, List.length_take]; rfl)) ?_; (with_reducible refine (spec_piPut.calls k1 _ _ x3_1 (rd l0 x8_1) t138 _ ?side1 ?side2 A5.out).mono ?_); (case side1 => repeat (first | exact (Kd.R_reads' HO_3.out).2.2 | (with_reducible refine Kd.C_alloc ?_ _) | (with_reducible refine Kd.C_drewN ?_ _) | (with_reducible refine Kd.C_drew ?_))); (case side2 => exact (Kd.R_reads' HO_3.out).2.1); rintro e w7 ⟨v139, rfl, ho0, hb⟩; refine ⟨_, rfl, ?_⟩; have n0_ := Aside0.mk (Kd.R_elder' (by (with_reducible repeat (first | apply Kd.R_alloc | apply Kd.R_drewN | apply Kd.R_drew)); exact HO_3.out) (Kd.R_base ho0) hb); have n1_ := Aside0.mk (Kd.R_lower (Kd.R_new' ho0 (Kd.R_lt (by (with_reducible repeat (first | apply Kd.R_alloc | apply Kd.R_drewN | apply Kd.R_drew)); exact HO_3.out))) (below_size (by repeat (first | (with_reducible first | exact HB.out | apply below_alloc | apply pw_below_drewN | apply below_drew1) | exact HB.out)))); have n2_ := Aside0.mk (below_step (by repeat (first | (with_reducible first | exact HB.out | apply below_alloc | apply pw_below_drewN | apply below_drew1) | exact HB.out)) hb); clear HO_3; clear HB; have HO_3 := n0_; have HO140 := n1_; have HB := n2_; clear n0_ n1_ n2_; (try clear hb); (try clear hb2); (try clear hk); (try clear hi); (try clear ho0)))
            go_roundg k1
            case measure => have := HK1.out; omega
            case rel => exact ⟨(t138), (wrap64 (x8_1 + 1)), (by first | rfl | (simp; done) | (simp [*]; done)), H', ⟨by have := HK1.out; omega⟩, ⟨by (with_reducible repeat (first | apply Kd.R_alloc | apply Kd.R_drewN | apply Kd.R_drew)); exact Kd.R_mono HO140.out (fun _ hk => trivial)⟩, ⟨by repeat (first | (with_reducible first | exact HB.out | apply below_alloc | apply pw_below_drewN | apply below_drew1) | exact HB.out)⟩⟩
          · rw [if_neg c4] at H
            exact absurd H (by simp)
        · rw [if_neg c3] at H
          exact absurd H (by simp)
      · rw [if_neg c2] at H
        have c2b0 : decide (x8_1 < (l0.length : Int)) = false := decide_eq_false c2
        clear c2
        obtain rfl := Option.some.inj H
        go_wp2
        go_ret
        exact ⟨_, by first | rfl | (simp [errW_none, errW_some] <;> rfl) | (simp [*, errW_none, errW_some] <;> rfl), by (with_reducible repeat (first | apply Kd.R_alloc | apply Kd.R_drewN | apply Kd.R_drew)); exact HO_3.out, by repeat (first | (with_reducible first | exact HB.out | apply below_alloc | apply pw_below_drewN | apply below_drew1) | exact HB.out)⟩

/-! ### spec_chParts: function 40 -/
def spec_chParts.l0 : Nat → Int → List Int → Int → List Int → Int → Int → Option (List Int)
  | 0, _, _, _, _, _, _ => none
  | k + 1, x0, x5, x6, x9, x10, x11 => if x11 < x10 then (if 0 ≤ x11 then (if x11 < (x9.length : Int) then (if (rd x9 x11) > x6 then (if x5.length < 17592186044416 then ((some (x5 ++ [wrap64 ((rd x9 x11) - x6)] : List Int)).bind fun y142 => (if y142.length < 17592186044416 then (spec_chParts.l0 k x0 (y142 ++ [1]) (wrap64 ((rd x9 x11) + 1)) x9 x10 (wrap64 (x11 + 1))) else (none))) else (none)) else (if x5.length < 17592186044416 then (spec_chParts.l0 k x0 (x5 ++ [1]) (wrap64 ((rd x9 x11) + 1)) x9 x10 (wrap64 (x11 + 1))) else (none))) else (none)) else (none)) else (if x6 < x0 then (if x5.length < 17592186044416 then (some (x5 ++ [wrap64 (x0 - x6)])) else (none)) else (some x5))
def spec_chParts.f (k : Nat) (a0 : Int) (l1 : List Int) : Option (List Int) := spec_chParts.l0 k a0 ([] : List Int) 0 l1 (l1.length : Int) 0
theorem spec_chParts.mono_l : ∀ k, (∀ y0 y1 y2 y3 y4 y5, LeO (spec_chParts.l0 k y0 y1 y2 y3 y4 y5) (spec_chParts.l0 (k + 1) y0 y1 y2 y3 y4 y5))
  | 0 => fun _ _ _ _ _ _ r h => by simp [spec_chParts.l0] at h
  | k + 1 => by
    have ih0 := spec_chParts.mono_l k
    · intro y0 y1 y2 y3 y4 y5
      unfold spec_chParts.l0
      repeat' first
      | (with_reducible exact ih0 _ _ _ _ _ _)
      | (with_reducible exact LeO.refl _)
      | (with_reducible exact LeO.none _)
      | (with_reducible refine LeO.ite ?_ ?_)
      | (with_reducible refine LeO.bind ?_ (fun _ => ?_))
      | exact ih0 _ _ _ _ _ _
      | exact LeO.none _
      | refine LeO.ite ?_ ?_
      | refine LeO.bind ?_ (fun _ => ?_)
theorem spec_chParts.mono : ∀ a0 a1 k, LeO (spec_chParts.f k a0 a1) (spec_chParts.f (k + 1) a0 a1) := by
  intro a0 a1 k
  have ih0 := spec_chParts.mono_l k
  unfold spec_chParts.f
  repeat' first
      | (with_reducible exact ih0 _ _ _ _ _ _)
      | (with_reducible exact LeO.refl _)
      | (with_reducible exact LeO.none _)
      | (with_reducible refine LeO.ite ?_ ?_)
      | (with_reducible refine LeO.bind ?_ (fun _ => ?_))
      | exact ih0 _ _ _ _ _ _
      | exact LeO.none _
      | refine LeO.ite ?_ ?_
      | refine LeO.bind ?_ (fun _ => ?_)
set_option maxHeartbeats 8000000 in
set_option maxRecDepth 100000 in
theorem spec_chParts.calls (k : Nat) (a0 : Int) (A1 : Option Addr) (c1 : Nat) (l1 : List Int) (r : List Int) (w : World) (hr1 : Kd.C (Kd.int .i64) w A1 l1.length l1) (hc1 : l1.length ≤ c1) (h : spec_chParts.f k a0 l1 = some r) :
    Calls Try.prog 40 #[.int .i64 a0, .slice A1 l1.length c1] w fun e w' => ∃ v0_ : Value, e = .returned (v0_) ∧ Kd.R (Kd.int .i64) 3 w' w.heap.size (fun _ => True) v0_ r ∧ Below w.heap.size w w' := by
  have HR1 := Aside0.mk hr1
  have HC1 := Aside0.mk hc1
  clear hr1 hc1
  have HB := Aside0.mk (Below.refl w.heap.size w)
  have H : (spec_chParts.l0 k a0 ([] : List Int) 0 l1 (l1.length : Int) 0) = some r := h
  clear h
  have H' := Aside0.mk H
  clear H
  go_enter Try.func40, Try.ntmps40
  go_wp2
  go_loopg [5, 6, 11] k (fun kq v5 v6 v11 w' => ∃ (x5_1 : List Int) (x6_1 : Int) (x11_1 : Int), v6 = .int .i64 x6_1 ∧ v11 = .int .i64 x11_1 ∧ Aside0 (spec_chParts.l0 kq a0 x5_1 x6_1 l1 (l1.length : Int) x11_1 = some r) ∧ Aside0 (kq ≤ k) ∧ Aside0 (Kd.R (Kd.int .i64) 3 w' w.heap.size (fun _ => True) v5 x5_1) ∧ Aside0 (Below w.heap.size w w'))
  case atStart => exact ⟨(([] : List Int)), (0), (0), (by first | rfl | (simp; done) | (simp [*]; done)), (by first | rfl | (simp; done) | (simp [*]; done)), H', ⟨Nat.le_refl _⟩, ⟨by first | exact Kd.R_nil _ _ _ _ _ | exact Kd.N_nil _ _ _ _ _ | exact Kd.V_nil _ _ _ _ _ | exact Kd.Q_nil _ _ _ _ _ | exact Kd.S_nil _ _ _ _ _⟩, ⟨by repeat (first | (with_reducible first | exact HB.out | apply below_alloc | apply pw_below_drewN | apply below_drew1) | exact HB.out)⟩⟩
  case round =>
    clear H'
    try clear c1
    try clear p2
    obtain ⟨x5_1, x6_1, x11_1, rfl, rfl, HA, HK1, HO_5, HB⟩ := hrel
    cases gk with
    | zero => exact absurd HA.out (by simp [spec_chParts.l0])
    | succ k1 =>
      have H := HA.out
      clear HA
      simp only [spec_chParts.l0] at H
      by_cases c3 : x11_1 < (l1.length : Int)
      · rw [if_pos c3] at H
        have c3b0 : decide (x11_1 < (l1.length : Int)) = true := decide_eq_true c3
        clear c3
        by_cases c4 : 0 ≤ x11_1
        · rw [if_pos c4] at H
          have c4b0 : decide (0 ≤ x11_1) = true := decide_eq_true c4
          clear c4
          by_cases c5 : x11_1 < (l1.length : Int)
          · rw [if_pos c5] at H
            have c5b0 : decide (x11_1 < (l1.length : Int)) = true := decide_eq_true c5
            clear c5
            by_cases c6 : (rd l1 x11_1) > x6_1
            · rw [if_pos c6] at H
              have c6b0 : decide (x6_1 < (rd l1 x11_1)) = true := decide_eq_true c6
              clear c6
              by_cases c7 : x5_1.length < 17592186044416
              · rw [if_pos c7] at H
                have LMc7 := Aside0.mk c7
                clear c7
                obtain ⟨y142, hy142⟩ : ∃ y_ : List Int, y_ = (x5_1 ++ [wrap64 ((rd l1 x11_1) - x6_1)]) := ⟨_, rfl⟩
                replace H : (if y142.length < 17592186044416 then (spec_chParts.l0 k1 a0 (y142 ++ [1]) (wrap64 ((rd l1 x11_1) + 1)) l1 (l1.length : Int) (wrap64 (x11_1 + 1))) else (none)) = some r := by first | (rw [hy142]; with_reducible exact H) | (have H2_ := (Option.bind_some _ _).symm.trans H; rw [hy142]; with_reducible exact H2_) | (have H2_ := (Option.bind_some _ _).symm.trans H; with_reducible exact H2_) | with_reducible exact H | (rw [hy142]; exact H) | exact H
                have Ny142 := Aside0.mk hy142
                clear hy142
                by_cases c8 : y142.length < 17592186044416
                · rw [if_pos c8] at H
                  have LMc8 := Aside0.mk c8
                  clear c8
                  obtain ⟨y145, hy145⟩ : ∃ y_ : List Int, y_ = (y142 ++ [1]) := ⟨_, rfl⟩
                  replace H : (spec_chParts.l0 k1 a0 y145 (wrap64 ((rd l1 x11_1) + 1)) l1 (l1.length : Int) (wrap64 (x11_1 + 1))) = some r := by first | (rw [hy145]; with_reducible exact H) | (have H2_ := (Option.bind_some _ _).symm.trans H; rw [hy145]; with_reducible exact H2_) | (have H2_ := (Option.bind_some _ _).symm.trans H; with_reducible exact H2_) | with_reducible exact H | (rw [hy145]; exact H) | exact H
                  have Ny145 := Aside0.mk hy145
                  clear hy145
                  have H' := Aside0.mk H
                  clear H
                  have p141 : 0 ≤ (x11_1 : Int) := of_decide_eq_true (by first | (with_reducible assumption) | assumption)
                  have q141 : x11_1 < (l1.length : Int) := of_decide_eq_true (by first | (with_reducible assumption) | assumption)
                  obtain ⟨ad141, e141, hx141_0⟩ := Kd.at_int HR1.out x11_1 p141 q141
                  cases e141
                  replace hx141_0 := (HB.out.cell (World.block_lt_of_cell? w _ hx141_0)).trans hx141_0
                  replace p141 := eq_true p141
                  replace q141 := eq_true q141
                  go_wp2_with (first | ((with_reducible refine gate_builtin (b := .append) (xs := #[.tmp 18, .tmp 22]) rfl ?_); at_builtin; refine Kd.R_append (Kd.int .i64) (w0 := w) w.heap.size rfl (.tmp 18) (.tmp 22) 22 3 (.int .i64 0) 8 rfl Try.underlying22 info3 rfl (by decide) (by omega) u5 x5_1 (wrap64 ((rd l1 x11_1) - x6_1)) [.int .i64 (wrap64 ((rd l1 x11_1) - x6_1))] (fun _ => True) (fun _ => False) rfl rfl ?aP (fun _ hk => hk.elim) ?aF ?aO ?aB ?aS ?aL ?_; (case aP => exact rfl); (case aB => exact (by repeat (first | (with_reducible first | exact HB.out | apply below_alloc | apply pw_below_drewN | apply below_drew1) | exact HB.out))); (case aF => exact (fun _ _ => trivial)); (case aO => exact (by (with_reducible repeat (first | apply Kd.R_alloc | apply Kd.R_drewN | apply Kd.R_drew)); exact HO_5.out)); (case aS => exact (below_size (by repeat (first | (with_reducible first | exact HB.out | apply below_alloc | apply pw_below_drewN | apply below_drew1) | exact HB.out)))); (case aL => have := LMc7.out; omega); intro v143 w9 ho hb hg hat; rw [← Ny142.out] at ho; have n0_ := Aside0.mk (hb); have n1_ := Aside0.mk (ho); clear HB; clear HO_5; have HB := n0_; have HO144 := n1_; clear n0_ n1_; clear ho hb hg hat) | ((with_reducible refine gate_builtin (b := .append) (xs := #[.tmp 24, .tmp 25]) rfl ?_); at_builtin; refine Kd.R_append (Kd.int .i64) (w0 := w) w.heap.size rfl (.tmp 24) (.tmp 25) 22 3 (.int .i64 0) 8 rfl Try.underlying22 info3 rfl (by decide) (by omega) v143 y142 1 [.int .i64 1] (fun _ => True) (fun _ => False) rfl rfl ?aP (fun _ hk => hk.elim) ?aF ?aO ?aB ?aS ?aL ?_; (case aP => exact rfl); (case aB => exact (by repeat (first | (with_reducible first | exact HB.out | apply below_alloc | apply pw_below_drewN | apply below_drew1) | exact HB.out))); (case aF => exact (fun _ _ => trivial)); (case aO => exact (by (with_reducible repeat (first | apply Kd.R_alloc | apply Kd.R_drewN | apply Kd.R_drew)); exact HO144.out)); (case aS => exact (below_size (by repeat (first | (with_reducible first | exact HB.out | apply below_alloc | apply pw_below_drewN | apply below_drew1) | exact HB.out)))); (case aL => have := LMc8.out; omega); intro v146 w10 ho hb hg hat; rw [← Ny145.out] at ho; have n0_ := Aside0.mk (hb); have n1_ := Aside0.mk (ho); clear HB; clear HO144; have HB := n0_; have HO147 := n1_; clear n0_ n1_; clear ho hb hg hat))
                  go_roundg k1
                  case measure => have := HK1.out; omega
                  case rel => exact ⟨(y145), (wrap64 ((rd l1 x11_1) + 1)), (wrap64 (x11_1 + 1)), (by first | rfl | (simp; done) | (simp [*]; done)), (by first | rfl | (simp; done) | (simp [*]; done)), H', ⟨by have := HK1.out; omega⟩, ⟨by (with_reducible repeat (first | apply Kd.R_alloc | apply Kd.R_drewN | apply Kd.R_drew)); exact HO147.out⟩, ⟨by repeat (first | (with_reducible first | exact HB.out | apply below_alloc | apply pw_below_drewN | apply below_drew1) | exact HB.out)⟩⟩
                · rw [if_neg c8] at H
                  exact absurd H (by simp)
              · rw [if_neg c7] at H
                exact absurd H (by simp)
            · rw [if_neg c6] at H
              have c6b0 : decide (x6_1 < (rd l1 x11_1)) = false := decide_eq_false c6
              clear c6
              by_cases c11 : x5_1.length < 17592186044416
              · rw [if_pos c11] at H
                have LMc11 := Aside0.mk c11
                clear c11
                obtain ⟨y148, hy148⟩ : ∃ y_ : List Int, y_ = (x5_1 ++ [1]) := ⟨_, rfl⟩
                replace H : (spec_chParts.l0 k1 a0 y148 (wrap64 ((rd l1 x11_1) + 1)) l1 (l1.length : Int) (wrap64 (x11_1 + 1))) = some r := by first | (rw [hy148]; with_reducible exact H) | (have H2_ := (Option.bind_some _ _).symm.trans H; rw [hy148]; with_reducible exact H2_) | (have H2_ := (Option.bind_some _ _).symm.trans H; with_reducible exact H2_) | with_reducible exact H | (rw [hy148]; exact H) | exact H
                have Ny148 := Aside0.mk hy148
                clear hy148
                have H' := Aside0.mk H
                clear H
                have p141 : 0 ≤ (x11_1 : Int) := of_decide_eq_true (by first | (with_reducible assumption) | assumption)
                have q141 : x11_1 < (l1.length : Int) := of_decide_eq_true (by first | (with_reducible assumption) | assumption)
                obtain ⟨ad141, e141, hx141_0⟩ := Kd.at_int HR1.out x11_1 p141 q141
                cases e141
                replace hx141_0 := (HB.out.cell (World.block_lt_of_cell? w _ hx141_0)).trans hx141_0
                replace p141 := eq_true p141
                replace q141 := eq_true q141
                go_wp2_with (first | ((with_reducible refine gate_builtin (b := .append) (xs := #[.tmp 24, .tmp 25]) rfl ?_); at_builtin; refine Kd.R_append (Kd.int .i64) (w0 := w) w.heap.size rfl (.tmp 24) (.tmp 25) 22 3 (.int .i64 0) 8 rfl Try.underlying22 info3 rfl (by decide) (by omega) u5 x5_1 1 [.int .i64 1] (fun _ => True) (fun _ => False) rfl rfl ?aP (fun _ hk => hk.elim) ?aF ?aO ?aB ?aS ?aL ?_; (case aP => exact rfl); (case aB => exact (by repeat (first | (with_reducible first | exact HB.out | apply below_alloc | apply pw_below_drewN | apply below_drew1) | exact HB.out))); (case aF => exact (fun _ _ => trivial)); (case aO => exact (by (with_reducible repeat (first | apply Kd.R_alloc | apply Kd.R_drewN | apply Kd.R_drew)); exact HO_5.out)); (case aS => exact (below_size (by repeat (first | (with_reducible first | exact HB.out | apply below_alloc | apply pw_below_drewN | apply below_drew1) | exact HB.out)))); (case aL => have := LMc11.out; omega); intro v149 w12 ho hb hg hat; rw [← Ny148.out] at ho; have n0_ := Aside0.mk (hb); have n1_ := Aside0.mk (ho); clear HB; clear HO_5; have HB := n0_; have HO150 := n1_; clear n0_ n1_; clear ho hb hg hat))
                go_roundg k1
                case measure => have := HK1.out; omega
                case rel => exact ⟨(y148), (wrap64 ((rd l1 x11_1) + 1)), (wrap64 (x11_1 + 1)), (by first | rfl | (simp; done) | (simp [*]; done)), (by first | rfl | (simp; done) | (simp [*]; done)), H', ⟨by have := HK1.out; omega⟩, ⟨by (with_reducible repeat (first | apply Kd.R_alloc | apply Kd.R_drewN | apply Kd.R_drew)); exact HO150.out⟩, ⟨by repeat (first | (with_reducible first | exact HB.out | apply below_alloc | apply pw_below_drewN | apply below_drew1) | exact HB.out)⟩⟩
              · rw [if_neg c11] at H
                exact absurd H (by simp)
          · rw [if_neg c5] at H
            exact absurd H (by simp)
        · rw [if_neg c4] at H
          exact absurd H (by simp)
      · rw [if_neg c3] at H
        have c3b0 : decide (x11_1 < (l1.length : Int)) = false := decide_eq_false c3
        clear c3
        by_cases c13 : x6_1 < a0
        · rw [if_pos c13] at H
          have c13b0 : decide (x6_1 < a0) = true := decide_eq_true c13
          clear c13
          by_cases c14 : x5_1.length < 17592186044416
          · rw [if_pos c14] at H
            have LMc14 := Aside0.mk c14
            clear c14
            obtain ⟨y151, hy151⟩ : ∃ y_ : List Int, y_ = (x5_1 ++ [wrap64 (a0 - x6_1)]) := ⟨_, rfl⟩
            replace H : (some y151) = some r := by first | (rw [hy151]; with_reducible exact H) | (have H2_ := (Option.bind_some _ _).symm.trans H; rw [hy151]; with_reducible exact H2_) | (have H2_ := (Option.bind_some _ _).symm.trans H; with_reducible exact H2_) | with_reducible exact H | (rw [hy151]; exact H) | exact H
            have Ny151 := Aside0.mk hy151
            clear hy151
            obtain rfl := Option.some.inj H
            go_wp2_with (first | ((with_reducible refine gate_builtin (b := .append) (xs := #[.tmp 33, .tmp 37]) rfl ?_); at_builtin; refine Kd.R_append (Kd.int .i64) (w0 := w) w.heap.size rfl (.tmp 33) (.tmp 37) 22 3 (.int .i64 0) 8 rfl Try.underlying22 info3 rfl (by decide) (by omega) u5 x5_1 (wrap64 (a0 - x6_1)) [.int .i64 (wrap64 (a0 - x6_1))] (fun _ => True) (fun _ => False) rfl rfl ?aP (fun _ hk => hk.elim) ?aF ?aO ?aB ?aS ?aL ?_; (case aP => exact rfl); (case aB => exact (by repeat (first | (with_reducible first | exact HB.out | apply below_alloc | apply pw_below_drewN | apply below_drew1) | exact HB.out))); (case aF => exact (fun _ _ => trivial)); (case aO => exact (by (with_reducible repeat (first | apply Kd.R_alloc | apply Kd.R_drewN | apply Kd.R_drew)); exact HO_5.out)); (case aS => exact (below_size (by repeat (first | (with_reducible first | exact HB.out | apply below_alloc | apply pw_below_drewN | apply below_drew1) | exact HB.out)))); (case aL => have := LMc14.out; omega); intro v152 w15 ho hb hg hat; rw [← Ny151.out] at ho; have n0_ := Aside0.mk (hb); have n1_ := Aside0.mk (ho); clear HB; clear HO_5; have HB := n0_; have HO153 := n1_; clear n0_ n1_; clear ho hb hg hat))
            go_ret
            exact ⟨_, by first | rfl | (simp [errW_none, errW_some] <;> rfl) | (simp [*, errW_none, errW_some] <;> rfl), by (with_reducible repeat (first | apply Kd.R_alloc | apply Kd.R_drewN | apply Kd.R_drew)); exact HO153.out, by repeat (first | (with_reducible first | exact HB.out | apply below_alloc | apply pw_below_drewN | apply below_drew1) | exact HB.out)⟩
          · rw [if_neg c14] at H
            exact absurd H (by simp)
        · rw [if_neg c13] at H
          have c13b0 : decide (x6_1 < a0) = false := decide_eq_false c13
          clear c13
          obtain rfl := Option.some.inj H
          go_wp2
          go_ret
          exact ⟨_, by first | rfl | (simp [errW_none, errW_some] <;> rfl) | (simp [*, errW_none, errW_some] <;> rfl), by (with_reducible repeat (first | apply Kd.R_alloc | apply Kd.R_drewN | apply Kd.R_drew)); exact HO_5.out, by repeat (first | (with_reducible first | exact HB.out | apply below_alloc | apply pw_below_drewN | apply below_drew1) | exact HB.out)⟩

/-! ### spec_chPieces: function 31 -/
def spec_chPieces.f (k : Nat) (a0 : Int) (l1 : List Int) : Option (List Int) := (spec_chParts.f k a0 l1).bind fun t154 => ((spec_chSorted.f k t154).bind fun t157 => (some t157))
theorem spec_chPieces.mono : ∀ a0 a1 k, LeO (spec_chPieces.f k a0 a1) (spec_chPieces.f (k + 1) a0 a1) := by
  intro a0 a1 k
  unfold spec_chPieces.f
  repeat' first
      | (with_reducible exact spec_chParts.mono _ _ _)
      | (with_reducible exact spec_chSorted.mono _ _)
      | (with_reducible exact LeO.refl _)
      | (with_reducible exact LeO.none _)
      | (with_reducible refine LeO.ite ?_ ?_)
      | (with_reducible refine LeO.bind ?_ (fun _ => ?_))
      | exact spec_chParts.mono _ _ _
      | exact spec_chSorted.mono _ _
      | exact LeO.none _
      | refine LeO.ite ?_ ?_
      | refine LeO.bind ?_ (fun _ => ?_)
set_option maxHeartbeats 8000000 in
set_option maxRecDepth 100000 in
theorem spec_chPieces.calls (k : Nat) (a0 : Int) (A1 : Option Addr) (c1 : Nat) (l1 : List Int) (r : List Int) (w : World) (hr1 : Kd.C (Kd.int .i64) w A1 l1.length l1) (hc1 : l1.length ≤ c1) (h : spec_chPieces.f k a0 l1 = some r) :
    Calls Try.prog 31 #[.int .i64 a0, .slice A1 l1.length c1] w fun e w' => ∃ v0_ : Value, e = .returned (v0_) ∧ Kd.R (Kd.int .i64) 3 w' w.heap.size (fun _ => True) v0_ r ∧ Below w.heap.size w w' := by
  have HR1 := Aside0.mk hr1
  have HC1 := Aside0.mk hc1
  clear hr1 hc1
  have HB := Aside0.mk (Below.refl w.heap.size w)
  have H : ((spec_chParts.f k a0 l1).bind fun t154 => ((spec_chSorted.f k t154).bind fun t157 => (some t157))) = some r := h
  clear h
  replace H := Option.bind_eq_some_iff.mp H
  obtain ⟨t154, A30, H⟩ := H
  replace H : ((spec_chSorted.f k t154).bind fun t157 => (some t157)) = some r := H
  have A3 := Aside0.mk A30
  clear A30
  replace H := Option.bind_eq_some_iff.mp H
  obtain ⟨t157, A40, H⟩ := H
  replace H : (some t157) = some r := H
  have A4 := Aside0.mk A40
  clear A40
  obtain rfl := Option.some.inj H
  go_enter Try.func31, Try.ntmps31
  go_wp2_with (first | ((with_reducible refine gate_callee (f := 40) rfl ?_); refine goesL_ (some 7) rfl rfl Try.func40 (by kernel_rfl) rfl #[.int .i64 a0, .slice A1 l1.length c1] rfl (by (try simp only [List.map_toArray, List.map_cons, List.map_nil]); first | done | rfl | (simp only [List.length_drop, List.length_take]; rfl)) ?_; (with_reducible refine (spec_chParts.calls k a0 _ _ l1 t154 _ ?side1 ?side2 A3.out).mono ?_); (case side1 => repeat (first | exact HR1.out | (with_reducible refine Kd.C_alloc ?_ _) | (with_reducible refine Kd.C_drewN ?_ _) | (with_reducible refine Kd.C_drew ?_))); (case side2 => exact HC1.out); rintro e w5 ⟨v155, rfl, ho0, hb⟩; refine ⟨_, rfl, ?_⟩; have n0_ := Aside0.mk (Kd.R_lower ho0 (below_size (by repeat (first | (with_reducible first | exact HB.out | apply below_alloc | apply pw_below_drewN | apply below_drew1) | exact HB.out)))); have n1_ := Aside0.mk (below_step (by repeat (first | (with_reducible first | exact HB.out | apply below_alloc | apply pw_below_drewN | apply below_drew1) | exact HB.out)) hb); clear HB; have HO156 := n0_; have HB := n1_; clear n0_ n1_; (try clear hb); (try clear hb2); (try clear hk); (try clear hi); (try clear ho0); obtain ⟨Ao6, co6, eo6⟩ := Kd.R_slice HO156.out; subst eo6) | ((with_reducible refine gate_callee (f := 39) rfl ?_); refine goesL_ (some 8) rfl rfl Try.func39 (by kernel_rfl) rfl #[.slice Ao6 t154.length co6] rfl (by (try simp only [List.map_toArray, List.map_cons, List.map_nil]); first | done | rfl | (simp only [List.length_drop, List.length_take]; rfl)) ?_; (with_reducible refine (spec_chSorted.calls k _ _ t154 t157 _ ?side1 ?side2 A4.out).mono ?_); (case side1 => repeat (first | exact (Kd.R_reads' HO156.out).2.2 | (with_reducible refine Kd.C_alloc ?_ _) | (with_reducible refine Kd.C_drewN ?_ _) | (with_reducible refine Kd.C_drew ?_))); (case side2 => exact (Kd.R_reads' HO156.out).2.1); rintro e w7 ⟨v158, rfl, ho0, hb⟩; refine ⟨_, rfl, ?_⟩; have n0_ := Aside0.mk (Kd.R_elder' (by (with_reducible repeat (first | apply Kd.R_alloc | apply Kd.R_drewN | apply Kd.R_drew)); exact HO156.out) (Kd.R_base ho0) hb); have n1_ := Aside0.mk (Kd.R_lower (Kd.R_new' ho0 (Kd.R_lt (by (with_reducible repeat (first | apply Kd.R_alloc | apply Kd.R_drewN | apply Kd.R_drew)); exact HO156.out))) (below_size (by repeat (first | (with_reducible first | exact HB.out | apply below_alloc | apply pw_below_drewN | apply below_drew1) | exact HB.out)))); have n2_ := Aside0.mk (below_step (by repeat (first | (with_reducible first | exact HB.out | apply below_alloc | apply pw_below_drewN | apply below_drew1) | exact HB.out)) hb); clear HO156; clear HB; have HO156 := n0_; have HO159 := n1_; have HB := n2_; clear n0_ n1_ n2_; (try clear hb); (try clear hb2); (try clear hk); (try clear hi); (try clear ho0)))
  go_ret
  exact ⟨_, by first | rfl | (simp [errW_none, errW_some] <;> rfl) | (simp [*, errW_none, errW_some] <;> rfl), by (with_reducible repeat (first | apply Kd.R_alloc | apply Kd.R_drewN | apply Kd.R_drew)); exact Kd.R_mono HO159.out (fun _ hk => trivial), by repeat (first | (with_reducible first | exact HB.out | apply below_alloc | apply pw_below_drewN | apply below_drew1) | exact HB.out)⟩

/-! ### spec_chPay: function 17 -/
def spec_chPay.f (k : Nat) (a0 : Int) (l1 : List Int) : Option (Bool) := (spec_chPieces.f k a0 l1).bind fun t160 => ((spec_piRun.f k t160).bind fun t163 => (some (t163 == a0)))
theorem spec_chPay.mono : ∀ a0 a1 k, LeO (spec_chPay.f k a0 a1) (spec_chPay.f (k + 1) a0 a1) := by
  intro a0 a1 k
  unfold spec_chPay.f
  repeat' first
      | (with_reducible exact spec_chPieces.mono _ _ _)
      | (with_reducible exact spec_piRun.mono _ _)
      | (with_reducible exact LeO.refl _)
      | (with_reducible exact LeO.none _)
      | (with_reducible refine LeO.ite ?_ ?_)
      | (with_reducible refine LeO.bind ?_ (fun _ => ?_))
      | exact spec_chPieces.mono _ _ _
      | exact spec_piRun.mono _ _
      | exact LeO.none _
      | refine LeO.ite ?_ ?_
      | refine LeO.bind ?_ (fun _ => ?_)
set_option maxHeartbeats 8000000 in
set_option maxRecDepth 100000 in
theorem spec_chPay.calls (k : Nat) (a0 : Int) (A1 : Option Addr) (c1 : Nat) (l1 : List Int) (r : Bool) (w : World) (hr1 : Kd.C (Kd.int .i64) w A1 l1.length l1) (hc1 : l1.length ≤ c1) (h : spec_chPay.f k a0 l1 = some r) :
    Calls Try.prog 17 #[.int .i64 a0, .slice A1 l1.length c1] w fun e w' => e = .returned (.bool r) ∧ Below w.heap.size w w' := by
  have HR1 := Aside0.mk hr1
  have HC1 := Aside0.mk hc1
  clear hr1 hc1
  have HB := Aside0.mk (Below.refl w.heap.size w)
  have H : ((spec_chPieces.f k a0 l1).bind fun t160 => ((spec_piRun.f k t160).bind fun t163 => (some (t163 == a0)))) = some r := h
  clear h
  replace H := Option.bind_eq_some_iff.mp H
  obtain ⟨t160, A30, H⟩ := H
  replace H : ((spec_piRun.f k t160).bind fun t163 => (some (t163 == a0))) = some r := H
  have A3 := Aside0.mk A30
  clear A30
  replace H := Option.bind_eq_some_iff.mp H
  obtain ⟨t163, A40, H⟩ := H
  replace H : (some (t163 == a0)) = some r := H
  have A4 := Aside0.mk A40
  clear A40
  obtain rfl := Option.some.inj H
  go_enter Try.func17, Try.ntmps17
  go_wp2_with (first | ((with_reducible refine gate_callee (f := 31) rfl ?_); refine goesL_ (some 7) rfl rfl Try.func31 (by kernel_rfl) rfl #[.int .i64 a0, .slice A1 l1.length c1] rfl (by (try simp only [List.map_toArray, List.map_cons, List.map_nil]); first | done | rfl | (simp only [List.length_drop, List.length_take]; rfl)) ?_; (with_reducible refine (spec_chPieces.calls k a0 _ _ l1 t160 _ ?side1 ?side2 A3.out).mono ?_); (case side1 => repeat (first | exact HR1.out | (with_reducible refine Kd.C_alloc ?_ _) | (with_reducible refine Kd.C_drewN ?_ _) | (with_reducible refine Kd.C_drew ?_))); (case side2 => exact HC1.out); rintro e w5 ⟨v161, rfl, ho0, hb⟩; refine ⟨_, rfl, ?_⟩; have n0_ := Aside0.mk (Kd.R_lower ho0 (below_size (by repeat (first | (with_reducible first | exact HB.out | apply below_alloc | apply pw_below_drewN | apply below_drew1) | exact HB.out)))); have n1_ := Aside0.mk (below_step (by repeat (first | (with_reducible first | exact HB.out | apply below_alloc | apply pw_below_drewN | apply below_drew1) | exact HB.out)) hb); clear HB; have HO162 := n0_; have HB := n1_; clear n0_ n1_; (try clear hb); (try clear hb2); (try clear hk); (try clear hi); (try clear ho0); obtain ⟨Ao6, co6, eo6⟩ := Kd.R_slice HO162.out; subst eo6) | ((with_reducible refine gate_callee (f := 30) rfl ?_); refine goesL_ (some 8) rfl rfl Try.func30 (by kernel_rfl) rfl #[.slice Ao6 t160.length co6] rfl (by (try simp only [List.map_toArray, List.map_cons, List.map_nil]); first | done | rfl | (simp only [List.length_drop, List.length_take]; rfl)) ?_; (with_reducible refine (spec_piRun.calls k _ _ t160 t163 _ ?side1 ?side2 A4.out).mono ?_); (case side1 => repeat (first | exact (Kd.R_reads' HO162.out).2.2 | (with_reducible refine Kd.C_alloc ?_ _) | (with_reducible refine Kd.C_drewN ?_ _) | (with_reducible refine Kd.C_drew ?_))); (case side2 => exact (Kd.R_reads' HO162.out).2.1); rintro e w' ⟨rfl, ⟨nd, rfl⟩⟩; refine ⟨_, rfl, ?_⟩))
  go_ret
  exact ⟨by first | rfl | (simp [errW_none, errW_some] <;> rfl) | (simp [*, errW_none, errW_some] <;> rfl), by repeat (first | (with_reducible first | exact HB.out | apply below_alloc | apply pw_below_drewN | apply below_drew1) | exact HB.out)⟩

/-! ### word delete -/
/-- A block behind stores of some cells one behind the other. -/
theorem blk_cells {g : Nat} {t : TypeId} : ∀ (vs : List Value) (o : Nat) (w : World) (cs : Array Value), w.heap[g]? = some (.cells cs t (0, 0)) → ∃ cs', (w.setCells g o vs).heap[g]? = some (.cells cs' t (0, 0)) ∧ cs'.size = cs.size ∧
    ∀ j, j < cs.size → cs'[j]? = if o ≤ j ∧ j < o + vs.length then vs[j - o]? else cs[j]?
  | [], o, w, cs, h => ⟨cs, h, rfl, fun j hj => by rw [if_neg (by simp <;> omega)]⟩
  | v :: vs, o, w, cs, h => by
    obtain ⟨cs', h1, h2, h3⟩ := blk_cells vs (o + 1) (w.setCell ⟨g, o, none⟩ v) _ (blk_set h o v)
    refine ⟨cs', h1, by rw [h2]; simp, fun j hj => ?_⟩
    rw [h3 j (by simpa using hj)]
    by_cases e1 : o + 1 ≤ j ∧ j < o + 1 + vs.length
    · rw [if_pos e1, if_pos (by simp; omega), show j - o = (j - (o + 1)) + 1 by omega, List.getElem?_cons_succ]
    · rw [if_neg e1]
      by_cases e2 : j = o
      · subst e2
        rw [if_pos (by simp), Nat.sub_self]
        simp [hj]
      · rw [if_neg (by simp; omega), Array.getElem?_setIfInBounds_ne (by omega)]
theorem own_cell (w : World) (a : Addr) (u : Value) : w.grownBy (w.setCell a u) (some a.block) :=
  ⟨rfl, rfl, rfl, by simp, fun i hi hne => Below.heap_setCell w a u i (fun e => hne (by rw [e]))⟩
theorem own_cells {g : Nat} : ∀ (vs : List Value) (o : Nat) (w : World), w.grownBy (w.setCells g o vs) (some g)
  | [], o, w => World.grownBy.refl _ _
  | v :: vs, o, w => (own_cell w ⟨g, o, none⟩ v).trans (own_cells vs (o + 1) _)
/-- What a row of one's own holds behind the taking out of element i: its cells moved, the last ones cleared. -/
theorem own_cut {w : World} {base e sz g n cap i : Nat} {xs zs : List Value} (HO : w.ownsRow base e sz (.slice (some ⟨g, 0, none⟩) n cap) n xs) (hi : i < n) (hz : zs.length = sz) :
    ((w.setCells g (i * sz) (xs.drop ((i + 1) * sz))).setCells g ((n - 1) * sz) zs).ownsRow base e sz (.slice (some ⟨g, 0, none⟩) (n - 1) cap) (n - 1) (xs.take (i * sz) ++ xs.drop ((i + 1) * sz)) ∧ w.grownBy ((w.setCells g (i * sz) (xs.drop ((i + 1) * sz))).setCells g ((n - 1) * sz) zs) (some g) := by
  obtain ⟨hl, hx⟩ := HO
  rcases hx with ⟨h, _⟩ | ⟨g', cap', cur, h, hb, hh, hnc, hcm, hcs, hct⟩
  · cases h
  injection h with h1 h2 h3
  injection h1 with h1
  injection h1 with h1
  subst h1
  subst h3
  have e1 : (i + 1) * sz = i * sz + sz := by rw [Nat.add_mul, Nat.one_mul]
  have e2 : n * sz = (n - 1) * sz + sz := by
    have : n = (n - 1) + 1 := by omega
    rw [this, Nat.add_mul, Nat.one_mul]; simp
  have e3 : i * sz ≤ (n - 1) * sz := Nat.mul_le_mul_right _ (by omega)
  have e4 : n * sz ≤ cap * sz := Nat.mul_le_mul_right _ hnc
  obtain ⟨c1, b1, s1, k1⟩ := blk_cells (xs.drop ((i + 1) * sz)) (i * sz) w cur hh
  obtain ⟨c2, b2, s2, k2⟩ := blk_cells zs ((n - 1) * sz) _ c1 b1
  have hld : (xs.drop ((i + 1) * sz)).length = (n - 1) * sz - i * sz := by rw [List.length_drop, hl]; omega
  refine ⟨⟨?_, .inr ⟨g, cap, c2, rfl, hb, b2, by omega, hcm, by rw [s2, s1, hcs], ?_⟩⟩, ?_⟩
  · rw [List.length_append, List.length_take, hld, hl]; omega
  · apply List.ext_getElem?
    intro j
    by_cases hj : j < (n - 1) * sz
    · rw [List.getElem?_take_of_lt hj, Array.getElem?_toList, k2 j (by omega), if_neg (by omega), k1 j (by omega)]
      by_cases hj2 : j < i * sz
      · rw [if_neg (by omega), List.getElem?_append_left (by rw [List.length_take, hl]; omega), List.getElem?_take_of_lt hj2, ← hct, List.getElem?_take_of_lt (by omega), Array.getElem?_toList]
      · rw [if_pos (by omega), List.getElem?_append_right (by rw [List.length_take, hl]; omega), List.length_take, hl, Nat.min_eq_left (by omega)]
    · rw [List.getElem?_eq_none (by rw [List.length_take]; omega), List.getElem?_eq_none (by rw [List.length_append, List.length_take, hld, hl]; omega)]
  · exact World.grownBy.trans (own_cells _ _ _) (own_cells _ _ _)

/-- 'clear' of one element. -/
theorem run_clear_one {P : Program} (w : World) (t e ty : TypeId) (z : Value) (zs : List Value) (ht : P.underlying t = some (.slice e)) (hv : ∀ w, (zeroValue e).run P w = .ok z w) (hz : (Builtin.zeroCells z.cells 1).toList = zs) (h1 : ∀ v ∈ zs, v.oneCell' = true) (b o c : Nat)
    (hc : ∀ j, j < zs.length → (w.cell? ⟨b, o + j, none⟩).isSome = true) (hf : ∀ j, j < zs.length → w.frozen? ⟨b, o + j, none⟩ = false) :
    (Builtin.clear_ #[t] ty #[.slice (some ⟨b, o, none⟩) 1 c]).run P w = .ok (.tuple #[]) (w.setCells b o zs) := by
  have hst := run_storeCells_cells (P := P) b o zs 0 w (by simpa using hc) (by simpa using hf) h1
  simp only [Nat.add_zero] at hst
  simp [Builtin.clear_, run_underlying ht, hv, hz, hst]
theorem own_frozen {w : World} {base e sz g n cap : Nat} {xs : List Value} (HO : w.ownsRow base e sz (.slice (some ⟨g, 0, none⟩) n cap) n xs) : ∀ j, w.frozen? ⟨g, j, none⟩ = false := by
  intro j
  rcases HO.2 with ⟨h, _⟩ | ⟨g', cap', cur, h, _, hh, _⟩
  · cases h
  · injection h with h1
    injection h1 with h1
    injection h1 with h1
    subst h1
    simp [World.frozen?, hh]
theorem reps_erase {α : Type} {R : α → List Value → Prop} {sz : Nat} {ps : List α} {cs : List Value} (h : Reps R sz ps cs) {i : Nat} (hi : i < ps.length) : Reps R sz (ps.eraseIdx i) (cs.take (i * sz) ++ cs.drop ((i + 1) * sz)) := by
  obtain ⟨hl, hr⟩ := h
  have e1 : (i + 1) * sz = i * sz + sz := by rw [Nat.add_mul, Nat.one_mul]
  have e2 : (i + 1) * sz ≤ ps.length * sz := Nat.mul_le_mul_right _ hi
  have e3 : (ps.length - 1) * sz = ps.length * sz - sz := by rw [Nat.sub_mul, Nat.one_mul]
  refine ⟨?_, fun j p hj => ?_⟩
  · rw [List.length_append, List.length_take, List.length_drop, List.length_eraseIdx_of_lt hi, hl, e3]; omega
  · rw [List.getElem?_eraseIdx] at hj
    by_cases c : j < i
    · rw [if_pos c] at hj
      have e4 : (j + 1) * sz ≤ i * sz := Nat.mul_le_mul_right _ c
      have e5 : (j + 1) * sz = j * sz + sz := by rw [Nat.add_mul, Nat.one_mul]
      have e6 : ((cs.take (i * sz) ++ cs.drop ((i + 1) * sz)).drop (j * sz)).take sz = (cs.drop (j * sz)).take sz := by
        rw [List.drop_append_of_le_length (by rw [List.length_take]; omega), List.take_append_of_le_length (by rw [List.length_drop, List.length_take]; omega), List.drop_take, List.take_take, Nat.min_eq_left (by omega)]
      rw [e6]; exact hr j p hj
    · rw [if_neg c] at hj
      have e4 : i * sz ≤ j * sz := Nat.mul_le_mul_right _ (by omega)
      have e6 : ((cs.take (i * sz) ++ cs.drop ((i + 1) * sz)).drop (j * sz)).take sz = (cs.drop ((j + 1) * sz)).take sz := by
        rw [List.drop_append, List.drop_eq_nil_of_le (by rw [List.length_take]; omega), List.nil_append, List.drop_drop, List.length_take, hl, Nat.min_eq_left (by omega)]
        congr 2
        rw [Nat.add_mul j 1 sz]; omega
      rw [e6]; exact hr (j + 1) p hj


/-! ### word hidden -/
-- USES delete
/-- The lists that begin so, with d more pieces at most, none less than p, in order. -/
def hidL : Nat → List Int → Int → List (List Int)
  | 0, l, _ => [l]
  | d + 1, l, p => l :: (List.range (7 - p).toNat).flatMap fun (i : Nat) => hidL d (l ++ [p + (i : Int)]) (p + (i : Int))
/-- Those that go on with p or more. -/
def hidR (d : Nat) (l : List Int) (p : Int) : List (List Int) := (List.range (7 - p).toNat).flatMap fun (i : Nat) => hidL d (l ++ [p + (i : Int)]) (p + (i : Int))
theorem hidR_step (d : Nat) (l : List Int) (p : Int) (h : p ≤ 6) : hidR d l p = hidL d (l ++ [p]) p ++ hidR d l (p + 1) := by
  unfold hidR
  rw [show (7 - p).toNat = (7 - (p + 1)).toNat + 1 by omega, List.range_succ_eq_map, List.flatMap_cons, List.flatMap_map]
  simp only [Int.ofNat_zero, Int.natCast_zero, Int.add_zero, Nat.succ_eq_add_one, Int.natCast_add, Int.natCast_one]
  congr 1
  congr 1
  funext i
  rw [show p + ((i : Int) + 1) = p + 1 + (i : Int) by omega]
theorem hidR_end (d : Nat) (l : List Int) (p : Int) (h : 6 < p) : hidR d l p = [] := by
  unfold hidR
  rw [show (7 - p).toNat = 0 by omega]
  rfl

/-- A step of a region, whatever stands for its being left out. -/
theorem step_E {c : Prop} [Decidable c] {X Y E : Prop} (hc : c) (h : if c then X else Y) : if c then X else E := by
  rw [if_pos hc] at h ⊢
  exact h
/-- A row of one number. -/
theorem C_one {W : World} {b : Nat} {q : Int} (h : W.cell? ⟨b, 0, none⟩ = some (.int .i64 q)) : Kd.C (Kd.int .i64) W (some ⟨b, 0, none⟩) 1 [q] := by
  refine ⟨rfl, by simp, fun _ => ⟨_, rfl, fun j p hj => ?_⟩⟩
  match j, hj with
  | 0, hj =>
    obtain rfl := Option.some.inj hj
    exact ⟨[.int .i64 q], rfl, rfl, fun i u hu => by
      match i, hu with
      | 0, hu => obtain rfl := Option.some.inj hu; exact h⟩


/-! ### word comb -/
-- USES hidden
/-- The lists that begin so, with d more numbers, each below b and greater than the one before, the next one p or more, in order. -/
def combL (b : Int) : Nat → List Int → Int → List (List Int)
  | 0, l, _ => [l]
  | d + 1, l, p => (List.range (b - p).toNat).flatMap fun (i : Nat) => combL b d (l ++ [p + (i : Int)]) (p + (i : Int) + 1)
/-- Those that go on with p or more. -/
def combR (b : Int) (d : Nat) (l : List Int) (p : Int) : List (List Int) := (List.range (b - p).toNat).flatMap fun (i : Nat) => combL b d (l ++ [p + (i : Int)]) (p + (i : Int) + 1)
theorem combR_step (b : Int) (d : Nat) (l : List Int) (p : Int) (h : p < b) : combR b d l p = combL b d (l ++ [p]) (p + 1) ++ combR b d l (p + 1) := by
  unfold combR
  rw [show (b - p).toNat = (b - (p + 1)).toNat + 1 by omega, List.range_succ_eq_map, List.flatMap_cons, List.flatMap_map]
  simp only [Int.ofNat_zero, Int.natCast_zero, Int.add_zero, Nat.succ_eq_add_one, Int.natCast_add, Int.natCast_one]
  congr 1
  congr 1
  funext i
  rw [show p + ((i : Int) + 1) = p + 1 + (i : Int) by omega]
theorem combR_end (b : Int) (d : Nat) (l : List Int) (p : Int) (h : b ≤ p) : combR b d l p = [] := by
  unfold combR
  rw [show (b - p).toNat = 0 by omega]
  rfl
theorem combL_succ (b : Int) (d : Nat) (l : List Int) (p : Int) : combL b (d + 1) l p = combR b d l p := rfl
theorem combL_none (b : Int) : ∀ (d : Nat) (l : List Int) (p : Int), b < p + d → 0 < d → combL b d l p = []
  | 0, _, _, _, h => absurd h (by omega)
  | d + 1, l, p, h, _ => by
    unfold combL
    rw [List.flatMap_eq_nil_iff]
    intro i hi
    have := List.mem_range.1 hi
    exact combL_none b d _ _ (by omega) (by omega)
theorem combR_end' (b : Int) (d : Nat) (l : List Int) (p : Int) (h : b - d ≤ p) : combR b d l p = [] := by
  unfold combR
  rw [List.flatMap_eq_nil_iff]
  intro i hi
  have := List.mem_range.1 hi
  exact combL_none b d _ _ (by omega) (by omega)


/-! ### spec_chLook: function 22 -/
-- GIVEN loop.example/g01305/spec.chLook raw=1
-- NEEDS loop.example/g01305/spec.chPay ; loop.example/g01305/spec.l1Own
-- USES comb
/-- Those lists for which the cuts pay. -/
def payS (k : Nat) (links : Int) (l : List Int) : Bool := (spec_chPay.f k links l).getD false
/-- From where a list goes on. -/
def fromC (l : List Int) : Int := (l.getLast?.map fun x => x + 1).getD 0
theorem fromC_snoc (l : List Int) (q : Int) : fromC (l ++ [q]) = q + 1 := by unfold fromC; rw [List.getLast?_append]; rfl
theorem fromC_rd (l : List Int) (h : 0 < l.length) : rd l ((l.length : Int) - 1) + 1 = fromC l := by
  unfold fromC rd
  rw [List.getLast?_eq_getElem?, show ((l.length : Int) - 1).toNat = l.length - 1 by omega, List.getD_eq_getElem?_getD, List.getElem?_eq_getElem (by omega)]
  rfl
/-- What a look has done. -/
def ChP (gO : Nat) (base : Nat) (w0 w : World) (v0 : Value) (tot : List (List Int)) (w' : World) : Prop :=
  ∃ v', w'.heap[gO]? = some (.cells #[v'] 32 (0, 0)) ∧ Kd.S (Kd.slice 3 (Kd.int .i64)) 22 w' base (fun _ => True) v' tot ∧ Kept w w' (fun k => k = gO ∨ some k = v0.ownBlock) ∧ (∀ k, v'.ownBlock = some k → v0.ownBlock = some k ∨ w.heap.size ≤ k) ∧ Below base w0 w'
theorem l1Own_val (l : List Int) (h : l.length ≤ 1000000) : spec_l1Own.f l = some l := by
  unfold spec_l1Own.f
  show (if ([] : List Int).length + l.length < 17592186044416 then some ([] ++ l) else none) = some l
  rw [if_pos (by simp; omega), List.nil_append]

set_option maxHeartbeats 4000000 in
set_option maxRecDepth 100000 in
theorem chLook_calls (k : Nat) (links : Int) (hlk : 0 ≤ links ∧ links ≤ 1000) (gO : Nat) (w0 : World) (hbO : w0.heap.size ≤ gO) : ∀ (d : Nat) (A : Option Addr) (c : Nat) (l : List Int) (v : Value) (xs : List (List Int)) (w : World),
    l.length + d ≤ 1000 → (∀ l' ∈ combL links d l (fromC l), (spec_chPay.f k links l').isSome = true) → 0 ≤ fromC l → fromC l ≤ 1001 → (xs ++ (combL links d l (fromC l)).filter (payS k links)).length ≤ 1000000 →
    w.heap[gO]? = some (.cells #[v] 32 (0, 0)) →
    Below w0.heap.size w0 w →
    Kd.S (Kd.slice 3 (Kd.int .i64)) 22 w w0.heap.size (fun _ => True) v xs →
    Kd.R (Kd.int .i64) 3 w w0.heap.size (fun _ => True) (.slice A l.length c) l →
    Calls Try.prog 22 #[.int .i64 links, .int .i64 d, .slice A l.length c, .pointer (some ⟨gO, 0, none⟩)] w fun e w' => e = .returned (.tuple #[]) ∧ ChP gO w0.heap.size w0 w v (xs ++ (combL links d l (fromC l)).filter (payS k links)) w' := by
  intro d
  induction d with
  | zero =>
    intro A c l v xs w hl hsome hp0 hp1 hlen hO hB hS hR
    obtain ⟨r, hr⟩ := Option.isSome_iff_exists.1 (hsome l (by simp [combL]))
    have hpay : payS k links l = r := by unfold payS; rw [hr]; rfl
    have hcl : (combL links 0 l (fromC l)).filter (payS k links) = if r = true then [l] else [] := by
      simp only [combL, List.filter_cons, List.filter_nil, hpay]
    rw [hcl] at hlen ⊢
    have HO := Aside0.mk hO
    have HB := Aside0.mk hB
    have HS := Aside0.mk hS
    have HR := Aside0.mk hR
    have HL := Aside0.mk hlen
    have HF := Aside0.mk hr
    have HRd := Aside0.mk (Kd.R_reads' hR)
    have HLL := Aside0.mk hl
    clear hO hB hS hR hlen hr hsome hpay hcl
    cases r with
    | false =>
      go_enter Try.func22, Try.ntmps22
      go_wp2_with (go_at_call 17; refine (spec_chPay.calls k links A c l false _ HRd.out.2.2 HRd.out.2.1 HF.out).mono ?_; rintro e w1 ⟨rfl, hb1⟩; have HB1 := Aside0.mk hb1; clear hb1)
      refine bodyPost_ret (results_none rfl _ _ _) rfl ?_
      refine ⟨rfl, v, blk_below HO.out HB1.out, ?_, (Kept.refl w _).below HB1.out, fun k hk => .inl hk, below_then HB.out HB.out.size HB1.out⟩
      first | exact Kd.S_below HS.out HB1.out | (rw [if_neg (by decide), List.append_nil]; exact Kd.S_below HS.out HB1.out)
    | true =>
      go_enter Try.func22, Try.ntmps22
      go_wp2_with (first
        | (go_at_call 17; refine (spec_chPay.calls k links A c l true _ HRd.out.2.2 HRd.out.2.1 HF.out).mono ?_; rintro e w2 ⟨rfl, hb2⟩; have hcO2 : w2.cell? ⟨gO, 0, none⟩ = some v := (blk_cell (blk_below HO.out hb2) 0).trans rfl; have HB2 := Aside0.mk hb2; clear hb2))
      have HO2 := Aside0.mk (blk_below HO.out HB2.out)
      have HS2 := Aside0.mk (Kd.S_below HS.out HB2.out)
      have HR2 := Aside0.mk (Kd.R_reads' (Kd.R_below HR.out HB2.out))
      go_region_law (first
        | (go_simp; go_at_call 18; refine (spec_l1Own.calls A c l l _ (by first | exact HR2.out.2.2 | exact Kd.C_drew HR2.out.2.2 | exact Kd.C_drewN HR2.out.2.2 _) HR2.out.2.1 (l1Own_val l (by have := HLL.out; omega))).mono ?_; rintro e w3 ⟨v3, rfl, ho3, hb3⟩; have HB3 : Aside0 (Below w2.heap.size w2 w3) := ⟨by first | exact hb3 | exact below_step (below_drew (Below.refl _ _)) hb3⟩; have HO3 : Aside0 (Kd.R (Kd.int .i64) 3 w3 w2.heap.size (fun _ => True) v3 l) := ⟨Kd.R_lower ho3 (by simp)⟩; obtain ⟨A3, c3, rfl⟩ := Kd.R_slice ho3; have hcO3 : w3.cell? ⟨gO, 0, none⟩ = some v := pw_cell_below HB3.out hcO2; have hcO3a : (w3.alloc (.cells #[.slice A3 l.length c3] 22)).cell? ⟨gO, 0, none⟩ = some v := (blk_cell (blk_alloc (blk_below HO2.out HB3.out) _) 0).trans rfl; clear ho3 hb3)
        | (refine step_E (by rfl) (Kd.S_append_step (Kd.slice 3 (Kd.int .i64)) (w0 := w0) w0.heap.size (by rfl) (.tmp 18) (.tmp 21) 32 22 (.slice none 0 0) 24 rfl Try.underlying32 info22 rfl (by decide) (by omega) v xs l [.slice A3 l.length c3] (fun _ => True) (fun k => some k = (Value.slice A3 l.length c3).ownBlock) rfl rfl ?aP ?aK (fun _ _ => trivial) ?aO ?aB ?aS ?aL ?_); (case aP => exact Kd.M_row (Kd.R_mono (Kd.R_tight rfl (Kd.R_lower HO3.out (Nat.le_trans HB.out.size HB2.out.size))) (fun _ h_ => h_))); (case aK => intro k hk; refine ⟨trivial, fun e => ?_⟩; obtain ⟨cs1, h1⟩ := Kd.R_typed HO3.out k hk.symm; obtain ⟨cs2, h2⟩ := Kd.S_typed (Kd.S_below HS2.out HB3.out) k e.symm; rw [h1] at h2; cases h2); (case aO => exact Kd.S_mono (Kd.S_elder' HS2.out (Kd.R_base HO3.out) HB3.out) (fun k hk => ⟨trivial, hk.2⟩)); (case aB => exact below_then (below_then HB.out HB.out.size HB2.out) (Nat.le_trans HB.out.size HB2.out.size) HB3.out); (case aS => exact Nat.le_trans (Nat.le_trans HB.out.size HB2.out.size) HB3.out.size); (case aL => have := HL.out; simp at this; omega); intro v1 w1 ho hb hg hat; obtain ⟨A1, c1, rfl⟩ := Kd.S_slice ho; have HOg := Aside0.mk (blk_grown (blk_below HO2.out HB3.out) hg (Kd.S_ne (Kd.S_below HS2.out HB3.out) (blk_below HO2.out HB3.out) (by decide))); have hcO1 : w1.cell? ⟨gO, 0, none⟩ = some v := (blk_cell HOg.out 0).trans rfl; have hfO1 := blk_frozen HOg.out 0; have HG := Aside0.mk hg; have HT := Aside0.mk hat; have HS1 := Aside0.mk ho; have HB1 := Aside0.mk hb; clear hb ho hg hat))
      all_goals go_wp2
      all_goals refine bodyPost_ret (results_none rfl _ _ _) rfl ?_
      all_goals
        (try rw [show xs.length + 1 = (xs ++ [l]).length by simp])
        (try rw [if_pos rfl])
        refine ⟨rfl, _, blk_put HOg.out 0 (.slice A1 (xs ++ [l]).length c1) (cs' := #[.slice A1 (xs ++ [l]).length c1]) rfl, Kd.S_set HS1.out HOg.out (by decide) 0 (.slice A1 (xs ++ [l]).length c1), ((Kept.refl w _).below (below_step HB2.out HB3.out)).then_ (Kept.setCell (p := ⟨gO, 0, none⟩) (Kept.of_grown HG.out (Kept.refl w3 (fun k => k = gO ∨ some k = v.ownBlock)) (fun k e => .inl (.inr e.symm))) (.inl (.inl rfl)) (.slice A1 (xs ++ [l]).length c1)) (fun k hk => .inl hk), fun k e => ?_, Below.setCell HB1.out (p := ⟨gO, 0, none⟩) hbO (.slice A1 (xs ++ [l]).length c1)⟩
        rcases HT.out with h | ⟨b, h, hb⟩
        · exact .inl (h ▸ e)
        · rw [h] at e; cases e; exact .inr (Nat.le_trans (Nat.le_trans HB2.out.size HB3.out.size) hb)
  | succ d ih =>
    intro A c l v xs w hl hsome hp0 hp1 hlen hO hB hS hR
    have HSO2 := Aside0.mk hsome
    have HO2 := Aside0.mk hO
    have HB2 := Aside0.mk hB
    have HS2 := Aside0.mk hS
    have HO := Aside0.mk hO
    have HS := Aside0.mk hS
    have HR := Aside0.mk hR
    have HL := Aside0.mk hlen
    have IH := Aside0.mk ih
    have HLL := Aside0.mk hl
    have HRr := Aside0.mk (Kd.R_reads' hR)
    have hdn : (((d + 1 : Nat) : Int) == 0) = false := by simp; omega
    clear hO hB hS hR hlen ih hsome
    by_cases hpos : 0 < (l.length : Int)
    · obtain ⟨ad, e1, hx⟩ := Kd.at_int HRr.out.2.2 ((l.length : Int) - 1) (by omega) (by omega)
      cases e1
      have hfr := fromC_rd l (by omega)
      have hwx : wrap64 (rd l ((l.length : Int) - 1) + 1) = fromC l := by rw [hfr]; unfold wrap64; omega
      have HNIL := Aside0.mk (rfl : fromC l = fromC l)
      have hwl : wrap64 ((l.length : Int) - 1) = (l.length : Int) - 1 := by unfold wrap64; omega
      rw [show ((l.length : Int) - 1).toNat = l.length - 1 by omega] at hx
      generalize hrd : rd l ((l.length : Int) - 1) = y at *
      clear hfr
      have hp0' := decide_eq_true hpos
      have hp1' := eq_true hpos
      go_enter Try.func22, Try.ntmps22
      go_wp2
      clear hp0' hp1' hx hpos
      go_loopg [9] (links - fromC l).toNat (fun gg v9 w' => ∃ (q : Int) (v' : Value) (xs' : List (List Int)), v9 = .int .i64 q ∧ Aside0 (0 ≤ q ∧ q ≤ 1001 ∧ (links - q).toNat ≤ gg) ∧ Aside0 (w'.heap[gO]? = some (.cells #[v'] 32 (0, 0))) ∧ Aside0 (Kd.S (Kd.slice 3 (Kd.int .i64)) 22 w' w0.heap.size (fun _ => True) v' xs') ∧ Aside0 (Kept w w' (fun k => k = gO ∨ some k = v.ownBlock)) ∧ Aside0 (∀ k, v'.ownBlock = some k → v.ownBlock = some k ∨ w.heap.size ≤ k) ∧ Aside0 (Below w0.heap.size w0 w') ∧ Aside0 (xs' ++ (combR links d l q).filter (payS k links) = xs ++ (combL links (d + 1) l (fromC l)).filter (payS k links)) ∧ Aside0 (∀ l' ∈ combR links d l q, (spec_chPay.f k links l').isSome = true))
      case atStart => exact ⟨fromC l, v, xs, (by first | rfl | (rw [HNIL.out])), ⟨hp0, hp1, by omega⟩, HO2, HS2, ⟨Kept.refl w _⟩, ⟨fun k hk => .inl hk⟩, HB2, ⟨rfl⟩, ⟨HSO2.out⟩⟩
      case round =>
        obtain ⟨q, v', xs', rfl, HQ, HO', HS', HK', HT', HB', HX, HSO'⟩ := hrel
        have ⟨hq0, hq1, hqg⟩ := HQ.out
        have hlen1000 := HLL.out
        have hwa : wrap64 (q + ((d : Int) + 1)) = q + ((d : Int) + 1) := by unfold wrap64; omega
        by_cases hq : q + ((d : Int) + 1) ≤ links
        · have hqd := decide_eq_true hq
          have HRw := Aside0.mk (Kd.R_reads' (Kd.R_kept (Kd.R_tight rfl HR.out) HK'.out (fun k hk h => by
            obtain ⟨cs1, h1⟩ := Kd.R_typed HR.out k hk.symm
            rcases h with rfl | h
            · rw [HO.out] at h1; cases h1
            · obtain ⟨cs2, h2⟩ := Kd.S_typed HS.out k h.symm; rw [h1] at h2; cases h2)))
          have hql : q < links := by omega
          have hle4 : (l ++ [q]).length + d ≤ 1000 := by simp; omega
          have hX : (xs' ++ (combL links d (l ++ [q]) (q + 1)).filter (payS k links)) ++ (combR links d l (q + 1)).filter (payS k links) = xs ++ (combL links (d + 1) l (fromC l)).filter (payS k links) := by have e := HX.out; rw [combR_step links d l q hql, List.filter_append] at e; rw [List.append_assoc]; exact e
          have hXl : (xs' ++ (combL links d (l ++ [q]) (q + 1)).filter (payS k links)).length ≤ 1000000 := by have e := HL.out; rw [← hX, List.length_append] at e; omega
          have hsn := fromC_snoc l q
          have hs1 : ∀ l' ∈ combL links d (l ++ [q]) (fromC (l ++ [q])), (spec_chPay.f k links l').isSome = true := by rw [hsn]; intro l' h'; exact HSO'.out l' (by rw [combR_step links d l q hql]; exact List.mem_append_left _ h')
          have hs2 : ∀ l' ∈ combR links d l (q + 1), (spec_chPay.f k links l').isSome = true := fun l' h' => HSO'.out l' (by rw [combR_step links d l q hql]; exact List.mem_append_right _ h')
          have hwd : wrap64 (((d + 1 : Nat) : Int) - 1) = (d : Int) := by unfold wrap64; omega
          have hwd2 : wrap64 ((d : Int) + 1 - 1) = (d : Int) := by unfold wrap64; omega
          have HX' := Aside0.mk hX
          have HXl := Aside0.mk hXl
          have HLE := Aside0.mk hle4
          have HSN := Aside0.mk hsn
          have HS1' := Aside0.mk hs1
          have HS2' := Aside0.mk hs2
          have HQ2 := Aside0.mk hql
          clear hX hXl hle4 HX hsn hs1 hs2 hql
          go_wp2_with (first
            | (go_at_call 18; refine (spec_l1Own.calls _ c l l _ HRw.out.2.2 HRw.out.2.1 (l1Own_val l (by omega))).mono ?_; rintro e w3 ⟨v3, rfl, ho3, hb3⟩; have HB3 := Aside0.mk hb3; have HO3 := Aside0.mk ho3; clear ho3 hb3)
            | ((with_reducible refine gate_builtin (b := .append) (xs := #[.tmp 46, .tmp 48]) rfl ?_); at_builtin; refine Kd.R_append_rows (Kd.int .i64) (w0 := wr) wr.heap.size rfl (.tmp 46) (.tmp 48) 22 3 (.int .i64 0) 8 rfl Try.underlying22 info3 rfl (by decide) (by omega) v3 l [q] _ _ _ (fun _ => True) (fun _ => False) rfl rfl ?aO ?aR (fun _ _ h => h) (fun _ h => h.elim) (fun _ _ => trivial) ?aB ?aS ?aL ?_; (case aO => exact Kd.R_alloc HO3.out _); (case aR => exact C_one ((blk_cell (blk_new w3 _) 0).trans rfl)); (case aB => exact below_alloc HB3.out _); (case aS => have := HB3.out.size; first | omega | (simp; omega)); (case aL => omega); intro v4 w4 ho4 hb4 hg4 hat4; obtain ⟨A4, c4, rfl⟩ := Kd.R_slice ho4; have HO4 := Aside0.mk ho4; have HB4 := Aside0.mk hb4; clear ho4 hb4 hg4 hat4; have ih4 := IH.out A4 c4 (l ++ [q]) v' xs' w4 HLE.out HS1'.out (by rw [HSN.out]; have := HQ.out; omega) (by rw [HSN.out]; have := HQ2.out; omega) (by rw [HSN.out]; exact HXl.out) (blk_below HO'.out HB4.out) (below_then HB'.out HB'.out.size HB4.out) (Kd.S_below HS'.out HB4.out) (Kd.R_lower HO4.out HB'.out.size); rw [HSN.out, show (l ++ [q]).length = l.length + 1 from by simp] at ih4; have IHQ := Aside0.mk ih4; clear ih4)
            | (go_at_call 22; (try rw [hwd2]); (try rw [hwd]); refine IHQ.out.mono ?_; rintro e w5 ⟨rfl, v5, hO5, hS5, hK5, hT5, hB5⟩; have HO5 := Aside0.mk hO5; have HS5 := Aside0.mk hS5; have HK5 := Aside0.mk hK5; have HT5 := Aside0.mk hT5; have HB5 := Aside0.mk hB5; clear hO5 hS5 hK5 hT5 hB5))
          go_roundg (gk - 1)
          case measure => have := HQ.out; have := HQ2.out; omega
          case rel =>
            have hql := HQ2.out
            refine ⟨q + 1, v5, _, (by first | rfl | rw [show wrap64 (q + 1) = q + 1 by unfold wrap64; omega]), ⟨by omega, by omega, by omega⟩, HO5, HS5, ⟨?_⟩, ⟨?_⟩, HB5, HX', HS2'⟩
            · exact (HK'.out.below HB4.out).then_ HK5.out (fun k hk => by
                rcases hk with hk | hk
                · exact .inl (.inl hk)
                · rcases HT'.out k hk.symm with h | h
                  · exact .inl (.inr h.symm)
                  · exact .inr h)
            · intro k hk
              rcases HT5.out k hk with h | h
              · exact HT'.out k h
              · exact .inr (Nat.le_trans (Nat.le_trans HK'.out.1 HB4.out.size) h)
        · have hqd := decide_eq_false hq
          go_wp2
          refine bodyPost_end (results_none rfl _ _ _) rfl ⟨rfl, v', HO'.out, ?_, HK'.out, HT'.out, HB'.out⟩
          have e := HX.out
          rw [combR_end' _ _ _ _ (by omega), List.filter_nil, List.append_nil] at e
          rw [← e]; exact HS'.out
    · have hp0' := decide_eq_false hpos
      have hp1' := eq_false hpos
      have HNIL : Aside0 (fromC l = 0) := ⟨by have e : l = [] := List.length_eq_zero_iff.1 (by omega); rw [e]; rfl⟩
      go_enter Try.func22, Try.ntmps22
      go_wp2
      clear hp0' hp1' hpos
      go_loopg [9] (links - fromC l).toNat (fun gg v9 w' => ∃ (q : Int) (v' : Value) (xs' : List (List Int)), v9 = .int .i64 q ∧ Aside0 (0 ≤ q ∧ q ≤ 1001 ∧ (links - q).toNat ≤ gg) ∧ Aside0 (w'.heap[gO]? = some (.cells #[v'] 32 (0, 0))) ∧ Aside0 (Kd.S (Kd.slice 3 (Kd.int .i64)) 22 w' w0.heap.size (fun _ => True) v' xs') ∧ Aside0 (Kept w w' (fun k => k = gO ∨ some k = v.ownBlock)) ∧ Aside0 (∀ k, v'.ownBlock = some k → v.ownBlock = some k ∨ w.heap.size ≤ k) ∧ Aside0 (Below w0.heap.size w0 w') ∧ Aside0 (xs' ++ (combR links d l q).filter (payS k links) = xs ++ (combL links (d + 1) l (fromC l)).filter (payS k links)) ∧ Aside0 (∀ l' ∈ combR links d l q, (spec_chPay.f k links l').isSome = true))
      case atStart => exact ⟨fromC l, v, xs, (by first | rfl | (rw [HNIL.out])), ⟨hp0, hp1, by omega⟩, HO2, HS2, ⟨Kept.refl w _⟩, ⟨fun k hk => .inl hk⟩, HB2, ⟨rfl⟩, ⟨HSO2.out⟩⟩
      case round =>
        obtain ⟨q, v', xs', rfl, HQ, HO', HS', HK', HT', HB', HX, HSO'⟩ := hrel
        have ⟨hq0, hq1, hqg⟩ := HQ.out
        have hlen1000 := HLL.out
        have hwa : wrap64 (q + ((d : Int) + 1)) = q + ((d : Int) + 1) := by unfold wrap64; omega
        by_cases hq : q + ((d : Int) + 1) ≤ links
        · have hqd := decide_eq_true hq
          have HRw := Aside0.mk (Kd.R_reads' (Kd.R_kept (Kd.R_tight rfl HR.out) HK'.out (fun k hk h => by
            obtain ⟨cs1, h1⟩ := Kd.R_typed HR.out k hk.symm
            rcases h with rfl | h
            · rw [HO.out] at h1; cases h1
            · obtain ⟨cs2, h2⟩ := Kd.S_typed HS.out k h.symm; rw [h1] at h2; cases h2)))
          have hql : q < links := by omega
          have hle4 : (l ++ [q]).length + d ≤ 1000 := by simp; omega
          have hX : (xs' ++ (combL links d (l ++ [q]) (q + 1)).filter (payS k links)) ++ (combR links d l (q + 1)).filter (payS k links) = xs ++ (combL links (d + 1) l (fromC l)).filter (payS k links) := by have e := HX.out; rw [combR_step links d l q hql, List.filter_append] at e; rw [List.append_assoc]; exact e
          have hXl : (xs' ++ (combL links d (l ++ [q]) (q + 1)).filter (payS k links)).length ≤ 1000000 := by have e := HL.out; rw [← hX, List.length_append] at e; omega
          have hsn := fromC_snoc l q
          have hs1 : ∀ l' ∈ combL links d (l ++ [q]) (fromC (l ++ [q])), (spec_chPay.f k links l').isSome = true := by rw [hsn]; intro l' h'; exact HSO'.out l' (by rw [combR_step links d l q hql]; exact List.mem_append_left _ h')
          have hs2 : ∀ l' ∈ combR links d l (q + 1), (spec_chPay.f k links l').isSome = true := fun l' h' => HSO'.out l' (by rw [combR_step links d l q hql]; exact List.mem_append_right _ h')
          have hwd : wrap64 (((d + 1 : Nat) : Int) - 1) = (d : Int) := by unfold wrap64; omega
          have hwd2 : wrap64 ((d : Int) + 1 - 1) = (d : Int) := by unfold wrap64; omega
          have HX' := Aside0.mk hX
          have HXl := Aside0.mk hXl
          have HLE := Aside0.mk hle4
          have HSN := Aside0.mk hsn
          have HS1' := Aside0.mk hs1
          have HS2' := Aside0.mk hs2
          have HQ2 := Aside0.mk hql
          clear hX hXl hle4 HX hsn hs1 hs2 hql
          go_wp2_with (first
            | (go_at_call 18; refine (spec_l1Own.calls _ c l l _ HRw.out.2.2 HRw.out.2.1 (l1Own_val l (by omega))).mono ?_; rintro e w3 ⟨v3, rfl, ho3, hb3⟩; have HB3 := Aside0.mk hb3; have HO3 := Aside0.mk ho3; clear ho3 hb3)
            | ((with_reducible refine gate_builtin (b := .append) (xs := #[.tmp 46, .tmp 48]) rfl ?_); at_builtin; refine Kd.R_append_rows (Kd.int .i64) (w0 := wr) wr.heap.size rfl (.tmp 46) (.tmp 48) 22 3 (.int .i64 0) 8 rfl Try.underlying22 info3 rfl (by decide) (by omega) v3 l [q] _ _ _ (fun _ => True) (fun _ => False) rfl rfl ?aO ?aR (fun _ _ h => h) (fun _ h => h.elim) (fun _ _ => trivial) ?aB ?aS ?aL ?_; (case aO => exact Kd.R_alloc HO3.out _); (case aR => exact C_one ((blk_cell (blk_new w3 _) 0).trans rfl)); (case aB => exact below_alloc HB3.out _); (case aS => have := HB3.out.size; first | omega | (simp; omega)); (case aL => omega); intro v4 w4 ho4 hb4 hg4 hat4; obtain ⟨A4, c4, rfl⟩ := Kd.R_slice ho4; have HO4 := Aside0.mk ho4; have HB4 := Aside0.mk hb4; clear ho4 hb4 hg4 hat4; have ih4 := IH.out A4 c4 (l ++ [q]) v' xs' w4 HLE.out HS1'.out (by rw [HSN.out]; have := HQ.out; omega) (by rw [HSN.out]; have := HQ2.out; omega) (by rw [HSN.out]; exact HXl.out) (blk_below HO'.out HB4.out) (below_then HB'.out HB'.out.size HB4.out) (Kd.S_below HS'.out HB4.out) (Kd.R_lower HO4.out HB'.out.size); rw [HSN.out, show (l ++ [q]).length = l.length + 1 from by simp] at ih4; have IHQ := Aside0.mk ih4; clear ih4)
            | (go_at_call 22; (try rw [hwd2]); (try rw [hwd]); refine IHQ.out.mono ?_; rintro e w5 ⟨rfl, v5, hO5, hS5, hK5, hT5, hB5⟩; have HO5 := Aside0.mk hO5; have HS5 := Aside0.mk hS5; have HK5 := Aside0.mk hK5; have HT5 := Aside0.mk hT5; have HB5 := Aside0.mk hB5; clear hO5 hS5 hK5 hT5 hB5))
          go_roundg (gk - 1)
          case measure => have := HQ.out; have := HQ2.out; omega
          case rel =>
            have hql := HQ2.out
            refine ⟨q + 1, v5, _, (by first | rfl | rw [show wrap64 (q + 1) = q + 1 by unfold wrap64; omega]), ⟨by omega, by omega, by omega⟩, HO5, HS5, ⟨?_⟩, ⟨?_⟩, HB5, HX', HS2'⟩
            · exact (HK'.out.below HB4.out).then_ HK5.out (fun k hk => by
                rcases hk with hk | hk
                · exact .inl (.inl hk)
                · rcases HT'.out k hk.symm with h | h
                  · exact .inl (.inr h.symm)
                  · exact .inr h)
            · intro k hk
              rcases HT5.out k hk with h | h
              · exact HT'.out k h
              · exact .inr (Nat.le_trans (Nat.le_trans HK'.out.1 HB4.out.size) h)
        · have hqd := decide_eq_false hq
          go_wp2
          refine bodyPost_end (results_none rfl _ _ _) rfl ⟨rfl, v', HO'.out, ?_, HK'.out, HT'.out, HB'.out⟩
          have e := HX.out
          rw [combR_end' _ _ _ _ (by omega), List.filter_nil, List.append_nil] at e
          rw [← e]; exact HS'.out


/-! ### spec_chMost: function 36 -/
def spec_chMost.f (a0 : Int) : Option (Int) := if 0 ≤ (wrap64 (a0 + 1)) then (some (wrap64 ((shl .i64 (wrap64 (a0 + 1)) (wrap64 (a0 + 1))) - 1))) else (none)
set_option maxHeartbeats 8000000 in
set_option maxRecDepth 100000 in
theorem spec_chMost.calls (a0 : Int) (r : Int) (w : World) (h : spec_chMost.f a0 = some r) :
    Calls Try.prog 36 #[.int .i64 a0] w fun e w' => e = .returned (.int .i64 r) ∧ Drawn0 w w' := by
  have H : (if 0 ≤ (wrap64 (a0 + 1)) then (some (wrap64 ((shl .i64 (wrap64 (a0 + 1)) (wrap64 (a0 + 1))) - 1))) else (none)) = some r := h
  clear h
  obtain ⟨ji2, hji2⟩ : ∃ j_ : Int, (wrap64 (a0 + 1)) = j_ := ⟨_, rfl⟩
  replace H : (if 0 ≤ (ji2) then (some (wrap64 ((shl .i64 (ji2) (ji2)) - 1))) else (none)) = some r := by first | (rw [hji2] at H; exact H) | (simp only [hji2] at H ⊢; exact H)
  have hji2w : (IntKind.i64.wrap (a0 + 1)) = ji2 := (i64_w _).trans hji2
  by_cases c3 : 0 ≤ (ji2)
  · rw [if_pos c3] at H
    have c3b0 := eq_true c3
    have c3b1 : decide (0 ≤ (ji2)) = true := decide_eq_true c3
    clear c3
    obtain ⟨ji4, hji4⟩ : ∃ j_ : Int, (shl .i64 (ji2) (ji2)) = j_ := ⟨_, rfl⟩
    replace H : (some (wrap64 ((ji4) - 1))) = some r := by first | (rw [hji4] at H; exact H) | (simp only [hji4] at H ⊢; exact H)
    have hji4_ : (IntKind.i64.wrap ((ji2) * 2 ^ min (ji2).toNat 64)) = ji4 := hji4
    have hji4z : (ji2) ≤ 64 → (IntKind.i64.wrap ((ji2) * 2 ^ (ji2).toNat)) = ji4 := shl_small hji4
    have hji4y : (wrap64 ((ji2) * 2 ^ min (ji2).toNat 64)) = ji4 := (i64_w _).symm.trans hji4_
    have hji4x : (ji2) ≤ 64 → (wrap64 ((ji2) * 2 ^ (ji2).toNat)) = ji4 := fun h_ => (i64_w _).symm.trans (hji4z h_)
    obtain rfl := Option.some.inj H
    go_enter Try.func36, Try.ntmps36
    go_wp2
    go_ret
    exact ⟨by first | rfl | (simp; done) | (simp only [← hji2, ← hji4] <;> (first | rfl | simp)) | (simp [*]; done), by repeat (first | exact Drawn0.refl _ | apply Drawn0.step)⟩
  · rw [if_neg c3] at H
    exact absurd H (by simp)

/-! ### spec_chFewest: function 23 -/
def spec_chFewest.l0 : Nat → Int → Int → Option (Int)
  | 0, _, _ => none
  | k + 1, x0, x3 => (spec_chMost.f x3).bind fun t164 => (if t164 < x0 then (spec_chFewest.l0 k x0 (wrap64 (x3 + 1))) else (some x3))
def spec_chFewest.f (k : Nat) (a0 : Int) : Option (Int) := spec_chFewest.l0 k a0 0
theorem spec_chFewest.mono_l : ∀ k, (∀ y0 y1, LeO (spec_chFewest.l0 k y0 y1) (spec_chFewest.l0 (k + 1) y0 y1))
  | 0 => fun _ _ r h => by simp [spec_chFewest.l0] at h
  | k + 1 => by
    have ih0 := spec_chFewest.mono_l k
    · intro y0 y1
      unfold spec_chFewest.l0
      repeat' first
      | (with_reducible exact ih0 _ _)
      | (with_reducible exact LeO.refl _)
      | (with_reducible exact LeO.none _)
      | (with_reducible refine LeO.ite ?_ ?_)
      | (with_reducible refine LeO.bind ?_ (fun _ => ?_))
      | exact ih0 _ _
      | exact LeO.none _
      | refine LeO.ite ?_ ?_
      | refine LeO.bind ?_ (fun _ => ?_)
theorem spec_chFewest.mono : ∀ a0 k, LeO (spec_chFewest.f k a0) (spec_chFewest.f (k + 1) a0) := by
  intro a0 k
  have ih0 := spec_chFewest.mono_l k
  unfold spec_chFewest.f
  repeat' first
      | (with_reducible exact ih0 _ _)
      | (with_reducible exact LeO.refl _)
      | (with_reducible exact LeO.none _)
      | (with_reducible refine LeO.ite ?_ ?_)
      | (with_reducible refine LeO.bind ?_ (fun _ => ?_))
      | exact ih0 _ _
      | exact LeO.none _
      | refine LeO.ite ?_ ?_
      | refine LeO.bind ?_ (fun _ => ?_)
set_option maxHeartbeats 8000000 in
set_option maxRecDepth 100000 in
theorem spec_chFewest.calls (k : Nat) (a0 : Int) (r : Int) (w : World) (h : spec_chFewest.f k a0 = some r) :
    Calls Try.prog 23 #[.int .i64 a0] w fun e w' => e = .returned (.int .i64 r) ∧ Drawn0 w w' := by
  have H : (spec_chFewest.l0 k a0 0) = some r := h
  clear h
  have H' := Aside0.mk H
  clear H
  go_enter Try.func23, Try.ntmps23
  go_wp2
  go_loopg [3] k (fun kq v3 w' => ∃ (x3_1 : Int), v3 = .int .i64 x3_1 ∧ Aside0 (spec_chFewest.l0 kq a0 x3_1 = some r) ∧ Aside0 (kq ≤ k) ∧ Drawn0 w w')
  case atStart => exact ⟨(0), (by first | rfl | (simp; done) | (simp [*]; done)), H', ⟨Nat.le_refl _⟩, by repeat (first | exact Drawn0.refl _ | apply Drawn0.step)⟩
  case round =>
    clear H'
    obtain ⟨x3_1, rfl, HA, HK1, ⟨m1, rfl⟩⟩ := hrel
    cases gk with
    | zero => exact absurd HA.out (by simp [spec_chFewest.l0])
    | succ k1 =>
      have H := HA.out
      clear HA
      simp only [spec_chFewest.l0] at H
      replace H := Option.bind_eq_some_iff.mp H
      obtain ⟨t164, A20, H⟩ := H
      replace H : (if t164 < a0 then (spec_chFewest.l0 k1 a0 (wrap64 (x3_1 + 1))) else (some x3_1)) = some r := H
      have A2 := Aside0.mk A20
      clear A20
      by_cases c3 : t164 < a0
      · rw [if_pos c3] at H
        have c3b0 : decide (t164 < a0) = true := decide_eq_true c3
        clear c3
        have H' := Aside0.mk H
        clear H
        go_wp2_with (first | ((with_reducible refine gate_callee (f := 36) rfl ?_); refine goesL_ (some 5) rfl rfl Try.func36 (by kernel_rfl) rfl #[.int .i64 x3_1] rfl (by (try simp only [List.map_toArray, List.map_cons, List.map_nil]); first | done | rfl | (simp only [List.length_drop, List.length_take]; rfl)) ?_; (with_reducible refine (spec_chMost.calls x3_1 t164 _ A2.out).mono ?_); rintro e w' ⟨rfl, ⟨nd, rfl⟩⟩; refine ⟨_, rfl, ?_⟩))
        go_roundg k1
        case measure => have := HK1.out; omega
        case rel => exact ⟨(wrap64 (x3_1 + 1)), (by first | rfl | (simp; done) | (simp [*]; done)), H', ⟨by have := HK1.out; omega⟩, by repeat (first | exact Drawn0.refl _ | apply Drawn0.step)⟩
      · rw [if_neg c3] at H
        have c3b0 : decide (t164 < a0) = false := decide_eq_false c3
        clear c3
        obtain rfl := Option.some.inj H
        go_wp2_with (first | ((with_reducible refine gate_callee (f := 36) rfl ?_); refine goesL_ (some 5) rfl rfl Try.func36 (by kernel_rfl) rfl #[.int .i64 x3_1] rfl (by (try simp only [List.map_toArray, List.map_cons, List.map_nil]); first | done | rfl | (simp only [List.length_drop, List.length_take]; rfl)) ?_; (with_reducible refine (spec_chMost.calls x3_1 t164 _ A2.out).mono ?_); rintro e w' ⟨rfl, ⟨nd, rfl⟩⟩; refine ⟨_, rfl, ?_⟩))
        go_ret
        exact ⟨by first | rfl | (simp; done) | (simp [*]; done), by repeat (first | exact Drawn0.refl _ | apply Drawn0.step)⟩

end Go.Proofs.Ytbpmakcgiepkhaa.PFnExactFirstCuts
