-- MADE FOR THIS CLAIM by wip/xp/xprint.py (with the kit's print; some functions' contracts proved by hand)
import Derived.Test.YtfiikhdkohgmfaaShelf
import Derived.Sort.OwnSortedInts
import Derived.Test.YtfiikhdkohgmfaaPFnExactNeedlessCardsx0
import Derived.Test.YtfiikhdkohgmfaaPFnExactNeedlessCardsx4
namespace Go.Proofs.Ytfiikhdkohgmfaa.PFnExactNeedlessCards
open Go.RowKit Go.Proofs.YtfiikhdkohgmfaaW.PrintWords Go.Proofs.YtfiikhdkohgmfaaW.PrintLast Go.Proofs.YtfiikhdkohgmfaaW.PrintMore
attribute [local go_sem] max2_int min2_int max_two min_two max_three min_three max_four min_four   -- for this text's walks alone
set_option linter.unusedVariables false
set_option linter.unusedSimpArgs false

/-! ### impl_cardOf: function 82 -/
-- GIVEN loop.example/g01305/impl.cardOf raw=1
/-- Those of the first m numbers for which p holds. -/
def selL (p : Int → Bool) (m : Nat) : List Int := ((List.range m).map fun (i : Nat) => (i : Int)).filter p
theorem selL_succ (p : Int → Bool) (m : Nat) : selL p (m + 1) = selL p m ++ (if p (m : Int) = true then [(m : Int)] else []) := by
  unfold selL
  rw [List.range_succ, List.map_append, List.filter_append]
  cases h : p (m : Int) <;> simp [List.filter_cons, h]
theorem selL_length (p : Int → Bool) (m : Nat) : (selL p m).length ≤ m := by
  unfold selL
  exact Nat.le_trans (List.length_filter_le _ _) (by simp)
set_option maxHeartbeats 4000000 in
set_option maxRecDepth 100000 in
theorem cardOf_calls (m : Nat) (hn : m ≤ 1000) (p : Int → Bool) (g : Nat) (lb : Array Value) (eg : ∀ args w, (callFunc g args).run Try.prog w = .ok (.enter g args) w) (w : World)
    (hp : ∀ (W : World) (x : Int), 0 ≤ x → x < m → Below w.heap.size w W → Calls Try.prog g (#[.int .i64 x] ++ lb) W fun e w' => e = .returned (.bool (p x)) ∧ Below W.heap.size W w') :
    Calls Try.prog 82 #[.int .i64 m, .func (.func g) #[] lb] w fun e w' => ∃ v, e = .returned v ∧ Kd.R (Kd.int .i64) 3 w' w.heap.size (fun _ => True) v (selL p m) ∧ Below w.heap.size w w' := by
  have HP := Aside0.mk hp
  clear hp
  go_enter Try.func82, Try.ntmps82
  go_wp2_with ((with_reducible refine gate_dst (N := 7) rfl ?_); refine Kd.R_lit (Kd.int .i64) (w0 := w) w.heap.size 3 ?hg (N := 7) ?hd (xs := []) (inner := []) (ok := fun _ => True) (okp := fun _ => True) ?hr ?hp (fun _ hk => hk) trivial (Below.refl _ _) (Nat.le_refl _) (by simp) ?_; (case hd => rfl); (case hg => rfl); (case hr => first | (go_simp; done) | (go_simp; rfl)); (case hp => exact (Reps.none _ _)); intro v7 w7 ho7 hb7 hg_ hnew_; obtain ⟨A7, c7, rfl⟩ := Kd.R_slice ho7; clear hg_ hnew_; have HO7 := Aside0.mk ho7; have HB7 := Aside0.mk hb7; clear ho7 hb7)
  go_loopg [5, 9] m (fun gg v5 v9 wr => ∃ (i : Nat) (A : Option Addr) (c : Nat), v9 = .int .i64 i ∧ v5 = .slice A (selL p i).length c ∧ Aside0 (i ≤ m ∧ m - i ≤ gg) ∧ Aside0 (Kd.R (Kd.int .i64) 3 wr w.heap.size (fun _ => True) (.slice A (selL p i).length c) (selL p i)) ∧ Aside0 (Below w.heap.size w wr))
  case atStart => exact ⟨0, A7, c7, rfl, rfl, ⟨by omega, by omega⟩, HO7, HB7⟩
  case round =>
    obtain ⟨i, A, c, rfl, rfl, HQ, HO, HB⟩ := hrel
    have ⟨him, hig⟩ := HQ.out
    by_cases hlt : (i : Int) < (m : Int)
    · have hlt0 := decide_eq_true hlt
      have hltN : decide (i < m) = true := decide_eq_true (by omega)
      have hcall := HP.out
      have hw : wrap64 ((i : Int) + 1) = ((i + 1 : Nat) : Int) := by unfold wrap64; omega
      have hss := selL_succ p i
      have HLN := Aside0.mk (selL_length p i)
      have HLT := Aside0.mk hlt
      cases hq : p (i : Int) with
      | true =>
        rw [hq, if_pos rfl] at hss
        have HSS := Aside0.mk hss
        have HQQ := Aside0.mk hq
        have HC := Aside0.mk (fun W hb => by have h := HP.out W (i : Int) (by omega) HLT.out hb; rw [hq] at h; exact h)
        clear hss hq hcall hig him hlt
        generalize selL p i = xs at *
        go_wp2_with (first
          | (go_at_fn g; refine (HC.out _ HB.out).mono ?_; rintro e w2 ⟨rfl, hb2⟩; have HO2 := Aside0.mk (Kd.R_below HO.out hb2); have HB2 := Aside0.mk (below_step HB.out hb2); clear hb2)
          | ((with_reducible refine gate_builtin (b := .append) (xs := #[.tmp 15, .tmp 17]) rfl ?_); at_builtin; refine Kd.R_append (Kd.int .i64) (w0 := w) w.heap.size rfl (.tmp 15) (.tmp 17) 26 3 (.int .i64 0) 8 rfl Try.underlying26 info3 rfl (by decide) (by omega) (.slice A xs.length c) xs (i : Int) [.int .i64 i] (fun _ => True) (fun _ => False) rfl (by first | (go_simp; done) | (go_simp; rfl)) rfl (fun _ h_ => h_.elim) (fun _ _ => trivial) HO2.out HB2.out HB2.out.size (by have := HLN.out; have := HLT.out; omega) ?_; intro v3 w3 ho3 hb3 hg3 hat3; obtain ⟨A3, c3, rfl⟩ := Kd.R_slice ho3; have HO3 := Aside0.mk ho3; have HB3 := Aside0.mk hb3; clear ho3 hb3 hg3 hat3))
        go_roundg (gk - 1)
        case measure => have := HQ.out; have := HLT.out; omega
        case rel =>
          have h3 := HO3.out
          rw [← HSS.out] at h3
          exact ⟨i + 1, A3, c3, (by first | rfl | rw [hw]), (by first | rfl | (rw [HSS.out]; first | rfl | (simp; done))), ⟨by have := HLT.out; omega, by have := HQ.out; have := HLT.out; omega⟩, ⟨by first | exact h3 | (have h4 := HO3.out; rw [← HSS.out] at h4; exact h4)⟩, HB3⟩
      | false =>
        rw [hq, if_neg (by decide), List.append_nil] at hss
        have HSS := Aside0.mk hss
        have HC := Aside0.mk (fun W hb => by have h := HP.out W (i : Int) (by omega) HLT.out hb; rw [hq] at h; exact h)
        clear hss hq hcall hig him hlt
        generalize selL p i = xs at *
        go_wp2_with (go_at_fn g; refine (HC.out _ HB.out).mono ?_; rintro e w2 ⟨rfl, hb2⟩; have HO2 := Aside0.mk (Kd.R_below HO.out hb2); have HB2 := Aside0.mk (below_step HB.out hb2); clear hb2)
        go_roundg (gk - 1)
        case measure => have := HQ.out; have := HLT.out; omega
        case rel =>
          exact ⟨i + 1, A, c, (by first | rfl | rw [hw]), (by rw [HSS.out]), ⟨by have := HLT.out; omega, by have := HQ.out; have := HLT.out; omega⟩, ⟨by rw [HSS.out]; exact HO2.out⟩, HB2⟩
    · have hlt0 := decide_eq_false hlt
      have e : i = m := by omega
      subst e
      have hltN : decide (i < i) = false := decide_eq_false (by omega)
      go_wp2
      go_ret
      exact ⟨_, rfl, HO.out, HB.out⟩


/-! ### slices_Clone_int_int: function 77 -/
/-- A copy. -/
def slices_Clone_int_int.f (l0 : List Int) : Option (List Int) := if l0.length < 4398046511104 then (some l0) else (none)
set_option maxHeartbeats 2000000 in
set_option maxRecDepth 100000 in
theorem slices_Clone_int_int.calls (A0 : Option Addr) (c0 : Nat) (l0 : List Int) (r : List Int) (w : World) (hr0 : Kd.C (Kd.int .i64) w A0 l0.length l0) (hc0 : l0.length ≤ c0) (h : slices_Clone_int_int.f l0 = some r) :
    Calls Try.prog 77 #[.slice A0 l0.length c0] w fun e w' => ∃ v0_ : Value, e = .returned (v0_) ∧ Kd.R (Kd.int .i64) 3 w' w.heap.size (fun _ => True) v0_ r ∧ Below w.heap.size w w' := by
  have HR0 := Aside0.mk hr0
  have HB := Aside0.mk (Below.refl w.heap.size w)
  by_cases c2 : l0.length < 4398046511104
  · have H : l0 = r := by unfold slices_Clone_int_int.f at h; rw [if_pos c2] at h; exact Option.some.inj h
    subst H
    clear h
    have LM := Aside0.mk c2
    clear c2 hr0 hc0
    cases A0 with
    | none =>
      have hnil := fun W => Go.Lib.run_eql_slice_nil (P := Try.prog) W 26 3 none l0.length c0 0 0 Try.underlying26
      go_enter Try.func77, Try.ntmps77
      go_wp2
      go_ret
      have e0 : l0 = [] := by
        rcases l0 with _ | ⟨x, s⟩
        · rfl
        · obtain ⟨ad, he, _⟩ := HR0.out.2.2 (by simp)
          cases he
      subst e0
      exact ⟨_, rfl, Kd.R_nil _ _ _ _ _, Below.refl _ _⟩
    | some ad =>
      have hnil := fun W => Go.Lib.run_eql_slice_nil (P := Try.prog) W 26 3 (some ad) l0.length c0 0 0 Try.underlying26
      go_enter Try.func77, Try.ntmps77
      go_wp2_with (first | ((with_reducible refine gate_dst (N := 5) rfl ?_); refine Kd.R_lit (Kd.int .i64) _ 3 ?hg (N := 5) ?hd (xs := ([] : List Int)) (inner := []) (ok := fun _ => True) (okp := fun _ => True) ?hr ?hp (fun _ hk => hk) trivial (Below.refl _ _) (Nat.le_refl _) (by simp) ?_; (case hd => rfl); (case hg => rfl); (case hr => first | (go_simp; done) | (go_simp; rfl)); (case hp => exact (Reps.none _ _)); intro v120 w3 ho4 hb hg_ hnew_; clear hg_ hnew_; have n0_ := Aside0.mk (Kd.R_lower ho4 (below_size (by repeat (first | (with_reducible first | exact HB.out | apply below_alloc | apply pw_below_drewN | apply below_drew1) | exact HB.out)))); have n1_ := Aside0.mk (below_step (by repeat (first | (with_reducible first | exact HB.out | apply below_alloc | apply pw_below_drewN | apply below_drew1) | exact HB.out)) hb); clear HB; have HO121 := n0_; have HB := n1_; clear n0_ n1_; clear hb ho4) | ((with_reducible refine gate_builtin (b := .append) (xs := #[.tmp 5, .tmp 6]) rfl ?_); at_builtin; refine Kd.R_append_rows (Kd.int .i64) (w0 := w) w.heap.size rfl (.tmp 5) (.tmp 6) 26 3 (.int .i64 0) 8 rfl Try.underlying26 info3 rfl (by decide) (by omega) v120 [] l0 _ _ _ (fun _ => True) (fun _ => False) rfl rfl ?aO ?aR (fun _ _ h => h) (fun _ h => h.elim) ?aF ?aB ?aS ?aL ?_; (case aR => repeat (first | exact (Kd.C_below HR0.out HB.out) | (with_reducible refine Kd.C_alloc ?_ _) | (with_reducible refine Kd.C_drewN ?_ _) | (with_reducible refine Kd.C_drew ?_))); (case aB => exact (by repeat (first | (with_reducible first | exact HB.out | apply below_alloc | apply pw_below_drewN | apply below_drew1) | exact HB.out))); (case aF => exact (fun _ _ => trivial)); (case aO => exact (by (with_reducible repeat (first | apply Kd.R_alloc | apply Kd.R_drewN | apply Kd.R_drew)); exact HO121.out)); (case aS => exact (below_size (by repeat (first | (with_reducible first | exact HB.out | apply below_alloc | apply pw_below_drewN | apply below_drew1) | exact HB.out)))); (case aL => have := LM.out; simp; omega); intro v123 w5 ho hb hg hat; have n0_ := Aside0.mk (hb); have n1_ := Aside0.mk (ho); clear HB; clear HO121; have HB := n0_; have HO124 := n1_; clear n0_ n1_; clear ho hb hg hat))
      go_ret
      exact ⟨_, rfl, HO124.out, HB.out⟩
  · unfold slices_Clone_int_int.f at h
    rw [if_neg c2] at h
    cases h


/-! ### impl_Cards_own: function 76 -/
def impl_Cards_own.l0 : Nat → List (List Int) → Int → Int → Int → List (List Int) → Option (Int × (List (List Int)))
  | 0, _, _, _, _, _ => none
  | k + 1, x11, x12, x13, x181000, x181001 => if x13 < x12 then (if 0 ≤ x13 then (if x13 < (x11.length : Int) then ((slices_Clone_int_int.f (rd_L1 x11 x13)).bind fun t182 => (if x181001.length < 5864062014805 then (impl_Cards_own.l0 k x11 x12 (wrap64 (x13 + 1)) x181000 (x181001 ++ [t182])) else (none))) else (none)) else (none)) else (some (x181000, x181001))
def impl_Cards_own.f (k : Nat) (a0_0 : Int) (l0_1 : List (List Int)) : Option (Int × (List (List Int))) := impl_Cards_own.l0 k l0_1 (l0_1.length : Int) 0 a0_0 (([] : List (List Int)))
theorem impl_Cards_own.mono_l : ∀ k, (∀ y0 y1 y2 y3 y4, LeO (impl_Cards_own.l0 k y0 y1 y2 y3 y4) (impl_Cards_own.l0 (k + 1) y0 y1 y2 y3 y4))
  | 0 => fun _ _ _ _ _ r h => by simp [impl_Cards_own.l0] at h
  | k + 1 => by
    have ih0 := impl_Cards_own.mono_l k
    · intro y0 y1 y2 y3 y4
      unfold impl_Cards_own.l0
      repeat' first
      | (with_reducible exact ih0 _ _ _ _ _)
      | (with_reducible exact LeO.refl _)
      | (with_reducible exact LeO.none _)
      | (with_reducible refine LeO.ite ?_ ?_)
      | (with_reducible refine LeO.bind ?_ (fun _ => ?_))
      | exact ih0 _ _ _ _ _
      | exact LeO.none _
      | refine LeO.ite ?_ ?_
      | refine LeO.bind ?_ (fun _ => ?_)
theorem impl_Cards_own.mono : ∀ a0 a1 k, LeO (impl_Cards_own.f k a0 a1) (impl_Cards_own.f (k + 1) a0 a1) := by
  intro a0 a1 k
  have ih0 := impl_Cards_own.mono_l k
  unfold impl_Cards_own.f
  repeat' first
      | (with_reducible exact ih0 _ _ _ _ _)
      | (with_reducible exact LeO.refl _)
      | (with_reducible exact LeO.none _)
      | (with_reducible refine LeO.ite ?_ ?_)
      | (with_reducible refine LeO.bind ?_ (fun _ => ?_))
      | exact ih0 _ _ _ _ _
      | exact LeO.none _
      | refine LeO.ite ?_ ?_
      | refine LeO.bind ?_ (fun _ => ?_)
def impl_Cards_own.T5 : Bool × List (List Nat × List Nat) := (true, [([], []), ([0], [0]), ([], []), ([2], [2]), ([3], [3]), ([1, 4, 3], [1, 4]), ([0, 1, 2, 3, 4, 5], []), ([6, 5, 5, 0, 1, 2, 3, 4, 5], [5, 6])])
def impl_Cards_own.B5 : List Nat := [0, 1, 0, 4, 12, 31, 63, 127]
theorem impl_Cards_own.tab5 : rtab .any (opsOf Try.f76 5) = impl_Cards_own.T5 := by kernel_rfl
theorem impl_Cards_own.bits5 : waitsOk impl_Cards_own.T5.2 impl_Cards_own.B5 = true := by kernel_rfl
set_option maxHeartbeats 8000000 in
set_option maxRecDepth 100000 in
theorem impl_Cards_own.calls (k : Nat) (a0_0 : Int) (A0_1 : Option Addr) (c0_1 : Nat) (l0_1 : List (List Int)) (r1 : Int) (r2 : List (List Int)) (w : World) (hr0_1 : Kd.C (Kd.slice 3 (Kd.int .i64)) w A0_1 l0_1.length l0_1) (hc0_1 : l0_1.length ≤ c0_1) (h : impl_Cards_own.f k a0_0 l0_1 = some (r1, r2)) :
    Calls Try.prog 76 #[.agg #[.int .i64 a0_0, .slice A0_1 l0_1.length c0_1]] w fun e w' => ∃ v1_ : Value, e = .returned (.agg #[.int .i64 r1, v1_]) ∧ Kd.S (Kd.slice 3 (Kd.int .i64)) 26 w' w.heap.size (fun _ => True) v1_ r2 ∧ Below w.heap.size w w' := by
  have hu46 := Try.underlying46
  have HR0_1 := Aside0.mk hr0_1
  have HC0_1 := Aside0.mk hc0_1
  clear hr0_1 hc0_1
  have HB := Aside0.mk (Below.refl w.heap.size w)
  have H : (impl_Cards_own.l0 k l0_1 (l0_1.length : Int) 0 a0_0 (([] : List (List Int)))) = some (r1, r2) := h
  clear h
  obtain ⟨y177, hy177⟩ : ∃ y_ : List (List Int), y_ = (([] : List (List Int))) := ⟨_, rfl⟩
  replace H : (impl_Cards_own.l0 k l0_1 (l0_1.length : Int) 0 a0_0 y177) = some (r1, r2) := by first | (rw [hy177]; with_reducible exact H) | (have H2_ := (Option.bind_some _ _).symm.trans H; rw [hy177]; with_reducible exact H2_) | (have H2_ := (Option.bind_some _ _).symm.trans H; with_reducible exact H2_) | with_reducible exact H | (rw [hy177]; exact H) | exact H
  have Ny177 := Aside0.mk hy177
  clear hy177
  have H' := Aside0.mk H
  clear H
  go_enter Try.func76, Try.ntmps76
  go_wp2_with (first | ((with_reducible refine gate_dst (N := 1) rfl ?_); refine box_event ?hg (N := 1) ?hd (cs := #[.int .i64 a0_0, .slice A0_1 l0_1.length c0_1]) (t := 46) ?hr ?_; (case hd => rfl); (case hg => rfl); (case hr => first | (go_simp; done) | (go_simp; rfl)); intro gb175 hg w2 hbox hb; have n0_ := Aside0.mk (below_step (by repeat (first | (with_reducible first | exact HB.out | apply below_alloc | apply pw_below_drewN | apply below_drew1) | exact HB.out)) hb); have n1_ := Aside0.mk (hbox); have n2_ := Aside0.mk ((by rw [hg]; exact (below_size (by repeat (first | (with_reducible first | exact HB.out | apply below_alloc | apply pw_below_drewN | apply below_drew1) | exact HB.out))) : w.heap.size ≤ gb175)); have n3_ := Aside0.mk ((by rw [hg]; exact (below_size (by repeat (first | (with_reducible first | exact HB.out | apply below_alloc | apply pw_below_drewN | apply below_drew1) | exact HB.out))) : w.heap.size ≤ gb175)); clear HB; have HB := n0_; have BK175 := n1_; have GW175 := n2_; have GE175 := n3_; clear n0_ n1_ n2_ n3_; clear hb hbox hg) | ((with_reducible refine gate_dst (N := 2) rfl ?_); refine box_event ?hg (N := 2) ?hd (cs := #[.int .i64 0, .slice none 0 0]) (t := 46) ?hr ?_; (case hd => rfl); (case hg => rfl); (case hr => first | (go_simp; done) | (go_simp; rfl)); intro gb176 hg w3 hbox hb; have n0_ := Aside0.mk (blk_below (g := gb175) (o := .cells #[.int .i64 a0_0, .slice A0_1 l0_1.length c0_1] 46 (0, 0)) (by (with_reducible repeat (first | refine blk_drewN ?_ _ | refine blk_drew ?_ | refine blk_alloc ?_ _)); exact BK175.out) hb); have n1_ := Aside0.mk (below_step (by repeat (first | (with_reducible first | exact HB.out | apply below_alloc | apply pw_below_drewN | apply below_drew1 | refine below_set ?_ GE175.out) | exact HB.out)) hb); have n2_ := Aside0.mk (hbox); have n3_ := Aside0.mk ((by rw [hg]; exact (below_size (by repeat (first | (with_reducible first | exact HB.out | apply below_alloc | apply pw_below_drewN | apply below_drew1 | refine below_set ?_ GE175.out) | exact HB.out))) : w.heap.size ≤ gb176)); have n4_ := Aside0.mk ((by rw [hg]; exact (below_size (by repeat (first | (with_reducible first | exact HB.out | apply below_alloc | apply pw_below_drewN | apply below_drew1 | refine below_set ?_ GE175.out) | exact HB.out))) : w.heap.size ≤ gb176)); have n5_ := Aside0.mk ((by rw [hg]; exact Nat.ne_of_lt (blk_lt (g := gb175) (o := .cells #[.int .i64 a0_0, .slice A0_1 l0_1.length c0_1] 46 (0, 0)) (by (with_reducible repeat (first | refine blk_drewN ?_ _ | refine blk_drew ?_ | refine blk_alloc ?_ _)); exact BK175.out)) : gb175 ≠ gb176)); have n6_ := Aside0.mk ((by rw [hg]; exact Nat.ne_of_gt (blk_lt (g := gb175) (o := .cells #[.int .i64 a0_0, .slice A0_1 l0_1.length c0_1] 46 (0, 0)) (by (with_reducible repeat (first | refine blk_drewN ?_ _ | refine blk_drew ?_ | refine blk_alloc ?_ _)); exact BK175.out)) : gb176 ≠ gb175)); clear BK175; clear HB; have BK175 := n0_; have HB := n1_; have BK176 := n2_; have GW176 := n3_; have GE176 := n4_; have NB175_176 := n5_; have NB176_175 := n6_; clear n0_ n1_ n2_ n3_ n4_ n5_ n6_; clear hb hbox hg; have hnb4 := NB175_176.out; have hnc4 := NB176_175.out; have hcz5_0 : w3.cell? ⟨gb175, 0, none⟩ = some (.int .i64 a0_0) := (blk_cell BK175.out 0).trans rfl; have hcz5_1 : w3.cell? ⟨gb175, 1, none⟩ = some (.slice A0_1 l0_1.length c0_1) := (blk_cell BK175.out 1).trans rfl; have hfz5_0 := blk_frozen BK175.out 0; have hfz5_1 := blk_frozen BK175.out 1) | ((with_reducible refine gate_dst (N := 8) rfl ?_); refine Kd.S_lit (Kd.slice 3 (Kd.int .i64)) _ 26 ?hg (N := 8) ?hd (xs := ([] : List (List Int))) (inner := []) (ok := fun _ => True) (okp := fun _ => True) ?hr ?hp (fun _ hk => hk) trivial (Below.refl _ _) (Nat.le_refl _) (by simp) ?_; (case hd => rfl); (case hg => rfl); (case hr => first | (go_simp; done) | (go_simp; rfl)); (case hp => exact (Reps.none _ _)); intro v178 w6 ho7 hb hg_ hnew_; clear hg_ hnew_; (first | rw [← Ny177.out] at ho7 | (simp only [Int.reduceToNat] at ho7; rw [← Ny177.out] at ho7)); have n0_ := Aside0.mk (Kd.S_lower ho7 (below_size (by repeat (first | (with_reducible first | exact HB.out | apply below_alloc | apply pw_below_drewN | apply below_drew1 | refine below_set ?_ GE175.out | refine below_set ?_ GE176.out) | exact HB.out)))); have n1_ := Aside0.mk (blk_below (g := gb175) (o := .cells #[.int .i64 a0_0, .slice A0_1 l0_1.length c0_1] 46 (0, 0)) (by (with_reducible repeat (first | refine blk_drewN ?_ _ | refine blk_drew ?_ | refine blk_alloc ?_ _)); exact BK175.out) hb); have n2_ := Aside0.mk (blk_below (g := gb176) (o := .cells #[.int .i64 0, .slice none 0 0] 46 (0, 0)) (by (with_reducible repeat (first | refine blk_drewN ?_ _ | refine blk_drew ?_ | refine blk_alloc ?_ _)); exact BK176.out) hb); have n3_ := Aside0.mk (below_step (by repeat (first | (with_reducible first | exact HB.out | apply below_alloc | apply pw_below_drewN | apply below_drew1 | refine below_set ?_ GE175.out | refine below_set ?_ GE176.out) | exact HB.out)) hb); clear BK175; clear BK176; clear HB; have HO179 := n0_; have BK175 := n1_; have BK176 := n2_; have HB := n3_; clear n0_ n1_ n2_ n3_; clear hb ho7; obtain ⟨Ao8, co8, eo8⟩ := Kd.S_slice HO179.out; subst eo8) | ((with_reducible refine gate_dst (N := 3) rfl ?_); refine box_event ?hg (N := 3) ?hd (cs := #[.int .i64 0, .slice none 0 0]) (t := 46) ?hr ?_; (case hd => rfl); (case hg => rfl); (case hr => first | (go_simp; done) | (go_simp; rfl)); intro gb180 hg w9 hbox hb; have n0_ := Aside0.mk (Kd.S_below (by (with_reducible repeat (first | apply Kd.S_alloc | apply Kd.S_drewN | apply Kd.S_drew)); exact HO179.out) hb); have n1_ := Aside0.mk (blk_below (g := gb175) (o := .cells #[.int .i64 a0_0, .slice A0_1 l0_1.length c0_1] 46 (0, 0)) (by (with_reducible repeat (first | refine blk_drewN ?_ _ | refine blk_drew ?_ | refine blk_alloc ?_ _)); exact BK175.out) hb); have n2_ := Aside0.mk (blk_below (g := gb176) (o := .cells #[.int .i64 0, .slice none 0 0] 46 (0, 0)) (by (with_reducible repeat (first | refine blk_drewN ?_ _ | refine blk_drew ?_ | refine blk_alloc ?_ _)); exact BK176.out) hb); have n3_ := Aside0.mk (below_step (by repeat (first | (with_reducible first | exact HB.out | apply below_alloc | apply pw_below_drewN | apply below_drew1 | refine below_set ?_ GE175.out | refine below_set ?_ GE176.out) | exact HB.out)) hb); have n4_ := Aside0.mk (hbox); have n5_ := Aside0.mk ((by rw [hg]; exact (below_size (by repeat (first | (with_reducible first | exact HB.out | apply below_alloc | apply pw_below_drewN | apply below_drew1 | refine below_set ?_ GE175.out | refine below_set ?_ GE176.out) | exact HB.out))) : w.heap.size ≤ gb180)); have n6_ := Aside0.mk ((by rw [hg]; exact (below_size (by repeat (first | (with_reducible first | exact HB.out | apply below_alloc | apply pw_below_drewN | apply below_drew1 | refine below_set ?_ GE175.out | refine below_set ?_ GE176.out) | exact HB.out))) : w.heap.size ≤ gb180)); have n7_ := Aside0.mk ((by rw [hg]; exact Nat.ne_of_lt (blk_lt (g := gb175) (o := .cells #[.int .i64 a0_0, .slice A0_1 l0_1.length c0_1] 46 (0, 0)) (by (with_reducible repeat (first | refine blk_drewN ?_ _ | refine blk_drew ?_ | refine blk_alloc ?_ _)); exact BK175.out)) : gb175 ≠ gb180)); have n8_ := Aside0.mk ((by rw [hg]; exact Nat.ne_of_gt (blk_lt (g := gb175) (o := .cells #[.int .i64 a0_0, .slice A0_1 l0_1.length c0_1] 46 (0, 0)) (by (with_reducible repeat (first | refine blk_drewN ?_ _ | refine blk_drew ?_ | refine blk_alloc ?_ _)); exact BK175.out)) : gb180 ≠ gb175)); have n9_ := Aside0.mk ((by rw [hg]; exact Nat.ne_of_lt (blk_lt (g := gb176) (o := .cells #[.int .i64 0, .slice none 0 0] 46 (0, 0)) (by (with_reducible repeat (first | refine blk_drewN ?_ _ | refine blk_drew ?_ | refine blk_alloc ?_ _)); exact BK176.out)) : gb176 ≠ gb180)); have n10_ := Aside0.mk ((by rw [hg]; exact Nat.ne_of_gt (blk_lt (g := gb176) (o := .cells #[.int .i64 0, .slice none 0 0] 46 (0, 0)) (by (with_reducible repeat (first | refine blk_drewN ?_ _ | refine blk_drew ?_ | refine blk_alloc ?_ _)); exact BK176.out)) : gb180 ≠ gb176)); clear HO179; clear BK175; clear BK176; clear HB; have HO179 := n0_; have BK175 := n1_; have BK176 := n2_; have HB := n3_; have BK180 := n4_; have GW180 := n5_; have GE180 := n6_; have NB175_180 := n7_; have NB180_175 := n8_; have NB176_180 := n9_; have NB180_176 := n10_; clear n0_ n1_ n2_ n3_ n4_ n5_ n6_ n7_ n8_ n9_ n10_; clear hb hbox hg; have hnb10 := NB180_175.out; have hnc10 := NB175_180.out; have hnb11 := NB180_176.out; have hnc11 := NB176_180.out; have hcz12_0 : w9.cell? ⟨gb180, 0, none⟩ = some (.int .i64 0) := (blk_cell BK180.out 0).trans rfl; have hcz12_1 : w9.cell? ⟨gb180, 1, none⟩ = some (.slice none 0 0) := (blk_cell BK180.out 1).trans rfl; have hfz12_0 := blk_frozen BK180.out 0; have hfz12_1 := blk_frozen BK180.out 1; have hcz13_0 : w9.cell? ⟨gb175, 0, none⟩ = some (.int .i64 a0_0) := (blk_cell BK175.out 0).trans rfl; have hcz13_1 : w9.cell? ⟨gb175, 1, none⟩ = some (.slice A0_1 l0_1.length c0_1) := (blk_cell BK175.out 1).trans rfl; have hfz13_0 := blk_frozen BK175.out 0; have hfz13_1 := blk_frozen BK175.out 1))
  go_loopg [13] k (fun kq v13 w' => ∃ (x13_1 : Int) (x181001_1 : List (List Int)) (u181001 : Value), v13 = .int .i64 x13_1 ∧ Aside0 (impl_Cards_own.l0 kq l0_1 (l0_1.length : Int) x13_1 a0_0 x181001_1 = some (r1, r2)) ∧ Aside0 (kq ≤ k) ∧ Aside0 (Kd.S (Kd.slice 3 (Kd.int .i64)) 26 w' w.heap.size (fun _ => True) u181001 x181001_1) ∧ Aside0 (w'.heap[gb175]? = some (.cells #[.int .i64 a0_0, (.slice A0_1 l0_1.length c0_1)] 46 (0, 0))) ∧ Aside0 (w'.heap[gb176]? = some (.cells #[.int .i64 0, (.slice none 0 0)] 46 (0, 0))) ∧ Aside0 (w'.heap[gb180]? = some (.cells #[.int .i64 a0_0, u181001] 46 (0, 0))) ∧ Aside0 (Below w.heap.size w w'))
  case atStart => exact ⟨(0), (y177), (.slice Ao8 y177.length co8), (by first | rfl | (simp; done) | (simp [*]; done)), H', ⟨Nat.le_refl _⟩, ⟨by (with_reducible repeat (first | apply Kd.S_alloc | apply Kd.S_drewN | apply Kd.S_drew)); exact Kd.S_mono (Kd.S_far (p := ⟨gb180, 1, none⟩) (Kd.S_far (p := ⟨gb180, 0, none⟩) (Kd.S_types HO179.out BK180.out (by decide)) (fun _ hk => hk.2) (.int .i64 a0_0)) (fun _ hk => hk.2) (.slice Ao8 y177.length co8)) (fun _ hk => trivial)⟩, ⟨by (with_reducible repeat (first | refine blk_drewN ?_ _ | refine blk_drew ?_ | refine blk_alloc ?_ _)); refine blk_far ?_ NB175_180.out _; (with_reducible repeat (first | refine blk_drewN ?_ _ | refine blk_drew ?_ | refine blk_alloc ?_ _)); refine blk_far ?_ NB175_180.out _; (with_reducible repeat (first | refine blk_drewN ?_ _ | refine blk_drew ?_ | refine blk_alloc ?_ _)); exact BK175.out⟩, ⟨by (with_reducible repeat (first | refine blk_drewN ?_ _ | refine blk_drew ?_ | refine blk_alloc ?_ _)); refine blk_far ?_ NB176_180.out _; (with_reducible repeat (first | refine blk_drewN ?_ _ | refine blk_drew ?_ | refine blk_alloc ?_ _)); refine blk_far ?_ NB176_180.out _; (with_reducible repeat (first | refine blk_drewN ?_ _ | refine blk_drew ?_ | refine blk_alloc ?_ _)); exact BK176.out⟩, ⟨by (with_reducible repeat (first | refine blk_drewN ?_ _ | refine blk_drew ?_ | refine blk_alloc ?_ _)); refine blk_put (cs := #[.int .i64 a0_0, .slice none 0 0]) ?_ 1 _ rfl; (with_reducible repeat (first | refine blk_drewN ?_ _ | refine blk_drew ?_ | refine blk_alloc ?_ _)); refine blk_put (cs := #[.int .i64 0, .slice none 0 0]) ?_ 0 _ rfl; (with_reducible repeat (first | refine blk_drewN ?_ _ | refine blk_drew ?_ | refine blk_alloc ?_ _)); exact BK180.out⟩, ⟨by repeat (first | (with_reducible first | exact HB.out | apply below_alloc | apply pw_below_drewN | apply below_drew1 | refine below_set ?_ GE175.out | refine below_set ?_ GE176.out | refine below_set ?_ GE180.out) | exact HB.out)⟩⟩
  case round =>
    clear H'
    try clear c1
    try clear p2
    try clear c4
    try clear c7
    try clear c10
    try clear c11
    try clear hcz12_0
    try clear hcz12_1
    try clear hcz13_0
    try clear hcz13_1
    try clear hcz5_0
    try clear hcz5_1
    try clear hfz12_0
    try clear hfz12_1
    try clear hfz13_0
    try clear hfz13_1
    try clear hfz5_0
    try clear hfz5_1
    obtain ⟨x13_1, x181001_1, u181001, rfl, HA, HK1, HO_181001, BK175, BK176, BK180, HB⟩ := hrel
    cases gk with
    | zero => exact absurd HA.out (by simp [impl_Cards_own.l0])
    | succ k1 =>
      have H := HA.out
      clear HA
      simp only [impl_Cards_own.l0] at H
      by_cases c14 : x13_1 < (l0_1.length : Int)
      · rw [if_pos c14] at H
        have c14b0 : decide (x13_1 < (l0_1.length : Int)) = true := decide_eq_true c14
        clear c14
        by_cases c15 : 0 ≤ x13_1
        · rw [if_pos c15] at H
          have c15b0 : decide (0 ≤ x13_1) = true := decide_eq_true c15
          clear c15
          by_cases c16 : x13_1 < (l0_1.length : Int)
          · rw [if_pos c16] at H
            have c16b0 : decide (x13_1 < (l0_1.length : Int)) = true := decide_eq_true c16
            clear c16
            replace H := Option.bind_eq_some_iff.mp H
            obtain ⟨t182, A170, H⟩ := H
            replace H : (if x181001_1.length < 5864062014805 then (impl_Cards_own.l0 k1 l0_1 (l0_1.length : Int) (wrap64 (x13_1 + 1)) a0_0 (x181001_1 ++ [t182])) else (none)) = some (r1, r2) := H
            have A17 := Aside0.mk A170
            clear A170
            by_cases c18 : x181001_1.length < 5864062014805
            · rw [if_pos c18] at H
              have LMc18 := Aside0.mk c18
              clear c18
              obtain ⟨y185, hy185⟩ : ∃ y_ : List (List Int), y_ = (x181001_1 ++ [t182]) := ⟨_, rfl⟩
              replace H : (impl_Cards_own.l0 k1 l0_1 (l0_1.length : Int) (wrap64 (x13_1 + 1)) a0_0 y185) = some (r1, r2) := by first | (rw [hy185]; with_reducible exact H) | (have H2_ := (Option.bind_some _ _).symm.trans H; rw [hy185]; with_reducible exact H2_) | (have H2_ := (Option.bind_some _ _).symm.trans H; with_reducible exact H2_) | with_reducible exact H | (rw [hy185]; exact H) | exact H
              have Ny185 := Aside0.mk hy185
              clear hy185
              have H' := Aside0.mk H
              clear H
              have p181 : 0 ≤ (x13_1 : Int) := of_decide_eq_true (by first | (with_reducible assumption) | assumption)
              have q181 : x13_1 < (l0_1.length : Int) := of_decide_eq_true (by first | (with_reducible assumption) | assumption)
              obtain ⟨ad181, A181_0, c181_0, e181, hx181_0, hl181_0, hi181_0⟩ := at_L1 HR0_1.out x13_1 p181 q181
              cases e181
              replace hx181_0 := (HB.out.cell (World.block_lt_of_cell? w _ hx181_0)).trans hx181_0
              have HR181_0 := Aside0.mk hi181_0
              have HC181_0 := Aside0.mk hl181_0
              clear hi181_0 hl181_0
              replace p181 := eq_true p181
              replace q181 := eq_true q181
              try go_wp2
              have n0_ := Aside0.mk (Kd.S_drew HO_181001.out)
              have n1_ := Aside0.mk (blk_drew BK175.out)
              have n2_ := Aside0.mk (blk_drew BK176.out)
              have n3_ := Aside0.mk (blk_drew BK180.out)
              have n4_ := Aside0.mk (below_drew1 HB.out)
              clear HO_181001
              clear BK175
              clear BK176
              clear BK180
              clear HB
              have HO_181001 := n0_
              have BK175 := n1_
              have BK176 := n2_
              have BK180 := n3_
              have HB := n4_
              clear n0_ n1_ n2_ n3_ n4_
              refine start_ (n := 8) (S := fun w' => w'.cell? ⟨gb180, 0, none⟩ = some (.int .i64 a0_0) ∧ w'.cell? ⟨gb180, 1, none⟩ = some (u181001)) (ds := [7]) #[false, false, false, false, false, false, false, false] (by kernel_rfl) rfl rfl ⟨(blk_cell BK180.out 0).trans rfl, (blk_cell BK180.out 1).trans rfl⟩ (fun hHeld => ?_); refine with_tabW impl_Cards_own.tab5 impl_Cards_own.bits5 (fun HT_ HW_ => ?_)
              generalize wr.drew = w19 at HO_181001 BK175 BK176 BK180 HB hHeld ⊢
              refine pure_ (i := 0) (N := some 17) (v := ?_) (a' := ?_) #[true, false, false, false, false, false, false, false] rfl rfl (any_of HT_.out (by kernel_rfl)) (fun _ _ _ h => h) (Or.inl ⟨by rfl, ?_⟩) ?_ ?_
              rotate_left
              · intro w'
                go_simp
                with_reducible rfl
              rotate_left
              · simp only [Act.put, List.setIfInBounds_toArray, List.set_cons_zero, List.set_cons_succ, i64_w, i32_w]
                rfl
              refine pure_ (i := 2) (N := some 19) (v := ?_) (a' := ?_) #[true, false, true, false, false, false, false, false] rfl rfl (any_of HT_.out (by kernel_rfl)) (fun _ _ _ h => h) (Or.inl ⟨by rfl, ?_⟩) ?_ ?_
              rotate_left
              · intro w'
                go_simp
                with_reducible rfl
              rotate_left
              · simp only [Act.put, List.setIfInBounds_toArray, List.set_cons_zero, List.set_cons_succ, i64_w, i32_w]
                rfl
              refine take_ (i := 1) (N := some 18) (v := ?_) (a' := ?_) #[true, true, true, false, false, false, false, false] rfl rfl (take_ofW HT_.out HW_.out (by kernel_rfl)) (fun _ _ _ h => h) (Or.inl ⟨by rfl, ?_⟩) hHeld ?_ ?_
              rotate_left
              · rintro w' ⟨s0, s1⟩
                go_simp
                with_reducible rfl
              rotate_left
              · simp only [Act.put, List.setIfInBounds_toArray, List.set_cons_zero, List.set_cons_succ, i64_w, i32_w]
                rfl
              refine one_ (i := 3) (N := some 20) #[true, true, true, true, false, false, false, false] rfl rfl (one_of HT_.out (by kernel_rfl)) (by decide) (fun K hK => ?_)
              refine goes_ Try.func77 (by kernel_rfl) rfl #[.slice A181_0 (rd_L1 l0_1 x13_1).length c181_0] (by rfl) rfl rfl (by (try simp only [List.map_toArray, List.map_cons, List.map_nil]); first | done | rfl | (simp only [List.length_drop, List.length_take]; rfl)) ?_
              with_reducible refine (slices_Clone_int_int.calls _ _ (rd_L1 l0_1 x13_1) t182 _ ?side1 ?side2 A17.out).mono ?_
              (case side1 => repeat (first | exact (Kd.C_below HR181_0.out HB.out) | (with_reducible refine Kd.C_alloc ?_ _) | (with_reducible refine Kd.C_drewN ?_ _) | (with_reducible refine Kd.C_drew ?_)))
              (case side2 => exact HC181_0.out)
              rintro e w20 ⟨v183, rfl, ho0, hb⟩
              refine ⟨_, rfl, ?_⟩
              have n0_ := Aside0.mk (Kd.S_elder' (by (with_reducible repeat (first | apply Kd.S_alloc | apply Kd.S_drewN | apply Kd.S_drew)); exact HO_181001.out) (Kd.R_base ho0) hb)
              have n1_ := Aside0.mk (Kd.R_lower ho0 (below_size (by repeat (first | (with_reducible first | exact HB.out | apply below_alloc | apply pw_below_drewN | apply below_drew1 | refine below_set ?_ GE175.out | refine below_set ?_ GE176.out | refine below_set ?_ GE180.out) | exact HB.out))))
              have n2_ := Aside0.mk (blk_below (g := gb175) (o := .cells #[.int .i64 a0_0, .slice (some ad181) l0_1.length c0_1] 46 (0, 0)) (by (with_reducible repeat (first | refine blk_drewN ?_ _ | refine blk_drew ?_ | refine blk_alloc ?_ _)); exact BK175.out) hb)
              have n3_ := Aside0.mk (blk_below (g := gb176) (o := .cells #[.int .i64 0, .slice none 0 0] 46 (0, 0)) (by (with_reducible repeat (first | refine blk_drewN ?_ _ | refine blk_drew ?_ | refine blk_alloc ?_ _)); exact BK176.out) hb)
              have n4_ := Aside0.mk (blk_below (g := gb180) (o := .cells #[.int .i64 a0_0, u181001] 46 (0, 0)) (by (with_reducible repeat (first | refine blk_drewN ?_ _ | refine blk_drew ?_ | refine blk_alloc ?_ _)); exact BK180.out) hb)
              have n5_ := Aside0.mk (below_step (by repeat (first | (with_reducible first | exact HB.out | apply below_alloc | apply pw_below_drewN | apply below_drew1 | refine below_set ?_ GE175.out | refine below_set ?_ GE176.out | refine below_set ?_ GE180.out) | exact HB.out)) hb)
              clear HO_181001
              clear BK175
              clear BK176
              clear BK180
              clear HB
              have HO_181001 := n0_
              have HO184 := n1_
              have BK175 := n2_
              have BK176 := n3_
              have BK180 := n4_
              have HB := n5_
              clear n0_ n1_ n2_ n3_ n4_ n5_
              (try clear hb)
              (try clear hb2)
              (try clear hk)
              (try clear hi)
              (try clear ho0)
              obtain ⟨Ao22, co22, eo22⟩ := Kd.R_slice HO184.out
              (first | subst eo22 | (injection eo22 with f1_ f2_ f3_; have f4_ := f1_.symm; have f5_ := f3_.symm; clear f1_ f2_ f3_; subst f4_; subst f5_))
              refine hK.out _ _ ⟨(blk_cell BK180.out 0).trans rfl, (blk_cell BK180.out 1).trans rfl⟩ (fun hHeld => ?_)
              clear hK K
              refine norm_ (a' := ?_) ?_ ?_
              rotate_left
              · show Act.put _ (some 20) _ = _
                simp only [Act.put, List.setIfInBounds_toArray, List.set_cons_zero, List.set_cons_succ, i64_w, i32_w]
                rfl
              refine one_ (i := 4) (N := some 21) #[true, true, true, true, true, false, false, false] rfl rfl (one_of HT_.out (by kernel_rfl)) (by decide) (fun K hK => ?_)
              refine value_ (w1 := ?_) (v := ?_) (by rfl) rfl ?_ ?_
              rotate_left 2
              · go_simp
                constructor
                · rfl
                · rfl
              refine hK.out _ _ ⟨(blk_cell (blk_alloc BK180.out _) 0).trans rfl, (blk_cell (blk_alloc BK180.out _) 1).trans rfl⟩ (fun hHeld => ?_)
              clear hK K
              refine norm_ (a' := ?_) ?_ ?_
              rotate_left
              · show Act.put _ (some 21) _ = _
                simp only [Act.put, List.setIfInBounds_toArray, List.set_cons_zero, List.set_cons_succ, i64_w, i32_w]
                rfl
              refine one_ (i := 5) (N := some 22) #[true, true, true, true, true, true, false, false] rfl rfl (one_of HT_.out (by kernel_rfl)) (by decide) (fun K hK => ?_)
              refine Kd.S_append_step (Kd.slice 3 (Kd.int .i64)) (w0 := w) w.heap.size (by rfl) (.tmp 18) (.tmp 21) 38 26 (.slice none 0 0) 24 rfl Try.underlying38 info26 rfl (by decide) (by omega) u181001 x181001_1 t182 [.slice Ao22 t182.length co22] (fun _ => True) (fun k_ => some k_ = (.slice Ao22 t182.length co22 : Value).ownBlock) rfl rfl ?aP (fun k_ hk_ => ((Kd.R_mono (ok' := fun k_ => ((fun _ => True)) k_ ∧ some k_ ≠ (u181001 : Value).ownBlock) (Kd.R_apart' (HO184.out) (Kd.S_typed HO_181001.out) (by decide)) (fun k_ hk => ⟨trivial, hk.2⟩))).1 k_ hk_.symm) ?aF ?aO ?aB ?aS ?aL ?_
              (case aP => exact Kd.M_row (Kd.R_mono (Kd.R_tight rfl (Kd.R_mono (ok' := fun k_ => ((fun _ => True)) k_ ∧ some k_ ≠ (u181001 : Value).ownBlock) (Kd.R_apart' (HO184.out) (Kd.S_typed HO_181001.out) (by decide)) (fun k_ hk => ⟨trivial, hk.2⟩))) (fun _ h_ => h_)))
              (case aB => exact (by repeat (first | (with_reducible first | exact HB.out | apply below_alloc | apply pw_below_drewN | apply below_drew1 | refine below_set ?_ GE175.out | refine below_set ?_ GE176.out | refine below_set ?_ GE180.out) | exact HB.out)))
              (case aF => exact (fun _ _ => trivial))
              (case aO => exact (by (with_reducible repeat (first | apply Kd.S_alloc | apply Kd.S_drewN | apply Kd.S_drew)); exact Kd.S_mono HO_181001.out (fun k_ hk => ⟨trivial, fun e_ => hk.2 e_⟩)))
              (case aS => exact (below_size (by repeat (first | (with_reducible first | exact HB.out | apply below_alloc | apply pw_below_drewN | apply below_drew1 | refine below_set ?_ GE175.out | refine below_set ?_ GE176.out | refine below_set ?_ GE180.out) | exact HB.out))))
              (case aL => have := LMc18.out; omega)
              intro v186 w21 ho hb hg hat
              rw [← Ny185.out] at ho
              have n0_ := Aside0.mk (blk_grown (g := gb175) (o := .cells #[.int .i64 a0_0, .slice (some ad181) l0_1.length c0_1] 46 (0, 0)) (by (with_reducible repeat (first | refine blk_drewN ?_ _ | refine blk_drew ?_ | refine blk_alloc ?_ _)); exact BK175.out) hg (Kd.S_ne HO_181001.out BK175.out (by decide)))
              have n1_ := Aside0.mk (blk_grown (g := gb176) (o := .cells #[.int .i64 0, .slice none 0 0] 46 (0, 0)) (by (with_reducible repeat (first | refine blk_drewN ?_ _ | refine blk_drew ?_ | refine blk_alloc ?_ _)); exact BK176.out) hg (Kd.S_ne HO_181001.out BK176.out (by decide)))
              have n2_ := Aside0.mk (blk_grown (g := gb180) (o := .cells #[.int .i64 a0_0, u181001] 46 (0, 0)) (by (with_reducible repeat (first | refine blk_drewN ?_ _ | refine blk_drew ?_ | refine blk_alloc ?_ _)); exact BK180.out) hg (Kd.S_ne HO_181001.out BK180.out (by decide)))
              have n3_ := Aside0.mk (hb)
              have n4_ := Aside0.mk (ho)
              clear BK175
              clear BK176
              clear BK180
              clear HB
              clear HO_181001
              clear HO184
              have BK175 := n0_
              have BK176 := n1_
              have BK180 := n2_
              have HB := n3_
              have HO187 := n4_
              clear n0_ n1_ n2_ n3_ n4_
              clear ho hb hg hat
              obtain ⟨Ao23, co23, eo23⟩ := Kd.S_slice HO187.out
              (first | subst eo23 | (injection eo23 with f1_ f2_ f3_; have f4_ := f1_.symm; have f5_ := f3_.symm; clear f1_ f2_ f3_; subst f4_; subst f5_))
              refine hK.out _ _ ⟨(blk_cell BK180.out 0).trans rfl, (blk_cell BK180.out 1).trans rfl⟩ (fun hHeld => ?_)
              clear hK K
              refine norm_ (a' := ?_) ?_ ?_
              rotate_left
              · show Act.put _ (some 22) _ = _
                simp only [Act.put, List.setIfInBounds_toArray, List.set_cons_zero, List.set_cons_succ, i64_w, i32_w]
                rfl
              refine pure_ (i := 6) (N := some 23) (v := ?_) (a' := ?_) #[true, true, true, true, true, true, true, false] rfl rfl (any_of HT_.out (by kernel_rfl)) (fun _ _ _ h => h) (Or.inl ⟨by rfl, ?_⟩) ?_ ?_
              rotate_left
              · intro w'
                go_simp
                with_reducible rfl
              rotate_left
              · simp only [Act.put, List.setIfInBounds_toArray, List.set_cons_zero, List.set_cons_succ, i64_w, i32_w]
                rfl
              refine last_ (i := 7) (N := none) #[true, true, true, true, true, true, true, true] rfl rfl (one_of HT_.out (by kernel_rfl)) (by decide) (fun K hK => ?_)
              have hs24 : w21.cell? ⟨gb180, 1, none⟩ = some (u181001) := (blk_cell BK180.out 1).trans rfl
              have hfs24 := blk_frozen BK180.out 1
              have hns24_0 := NB175_180.out
              have hns24_1 := NB176_180.out
              have hms24_0 := NB180_175.out
              have hms24_1 := NB180_176.out
              refine skip_ (w1 := ?_) (by rfl) rfl ?_ ?_
              rotate_left
              · go_simp
                rfl
              refine hK.out _ _ ?_
              clear hK K
              refine done_ (done_of HT_.out (by kernel_rfl)) ?_
              try go_wp2
              go_roundg k1
              case measure => have := HK1.out; omega
              case rel => exact ⟨(wrap64 (x13_1 + 1)), (y185), (.slice Ao23 y185.length co23), (by first | rfl | (simp; done) | (simp [*]; done)), H', ⟨by have := HK1.out; omega⟩, ⟨by (with_reducible repeat (first | apply Kd.S_alloc | apply Kd.S_drewN | apply Kd.S_drew)); exact Kd.S_mono (Kd.S_far (p := ⟨gb180, 1, none⟩) (Kd.S_types HO187.out BK180.out (by decide)) (fun _ hk => hk.2) (.slice Ao23 y185.length co23)) (fun _ hk => trivial)⟩, ⟨by (with_reducible repeat (first | refine blk_drewN ?_ _ | refine blk_drew ?_ | refine blk_alloc ?_ _)); refine blk_far ?_ NB175_180.out _; (with_reducible repeat (first | refine blk_drewN ?_ _ | refine blk_drew ?_ | refine blk_alloc ?_ _)); exact BK175.out⟩, ⟨by (with_reducible repeat (first | refine blk_drewN ?_ _ | refine blk_drew ?_ | refine blk_alloc ?_ _)); refine blk_far ?_ NB176_180.out _; (with_reducible repeat (first | refine blk_drewN ?_ _ | refine blk_drew ?_ | refine blk_alloc ?_ _)); exact BK176.out⟩, ⟨by (with_reducible repeat (first | refine blk_drewN ?_ _ | refine blk_drew ?_ | refine blk_alloc ?_ _)); refine blk_put (cs := #[.int .i64 a0_0, u181001]) ?_ 1 _ rfl; (with_reducible repeat (first | refine blk_drewN ?_ _ | refine blk_drew ?_ | refine blk_alloc ?_ _)); exact BK180.out⟩, ⟨by repeat (first | (with_reducible first | exact HB.out | apply below_alloc | apply pw_below_drewN | apply below_drew1 | refine below_set ?_ GE175.out | refine below_set ?_ GE176.out | refine below_set ?_ GE180.out) | exact HB.out)⟩⟩
            · rw [if_neg c18] at H
              exact absurd H (by simp)
          · rw [if_neg c16] at H
            exact absurd H (by simp)
        · rw [if_neg c15] at H
          exact absurd H (by simp)
      · rw [if_neg c14] at H
        have c14b0 : decide (x13_1 < (l0_1.length : Int)) = false := decide_eq_false c14
        clear c14
        simp only [Option.some.injEq, Prod.mk.injEq] at H
        obtain ⟨rfl, rfl⟩ := H
        have hnb25 := NB180_175.out
        have hnc25 := NB175_180.out
        have hnb26 := NB180_176.out
        have hnc26 := NB176_180.out
        have hcz27_0 : wr.cell? ⟨gb180, 0, none⟩ = some (.int .i64 a0_0) := (blk_cell BK180.out 0).trans rfl
        have hcz27_1 : wr.cell? ⟨gb180, 1, none⟩ = some (u181001) := (blk_cell BK180.out 1).trans rfl
        have hfz27_0 := blk_frozen BK180.out 0
        have hfz27_1 := blk_frozen BK180.out 1
        have hnb28 := NB176_175.out
        have hnc28 := NB175_176.out
        have hcz29_0 : wr.cell? ⟨gb176, 0, none⟩ = some (.int .i64 0) := (blk_cell BK176.out 0).trans rfl
        have hcz29_1 : wr.cell? ⟨gb176, 1, none⟩ = some (.slice none 0 0) := (blk_cell BK176.out 1).trans rfl
        have hfz29_0 := blk_frozen BK176.out 0
        have hfz29_1 := blk_frozen BK176.out 1
        obtain ⟨Ao30, co30, eo30⟩ := Kd.S_slice HO_181001.out
        subst eo30
        go_wp2
        refine bodyPost_ret (results_cell_row rfl _ _ gb176 46 #[.int .i64 a0_0, .slice Ao30 x181001_1.length co30] (0, 0) _ rfl (by (with_reducible repeat (first | refine blk_drewN ?_ _ | refine blk_drew ?_ | refine blk_alloc ?_ _)); refine blk_put (cs := #[.int .i64 a0_0, .slice none 0 0]) ?_ 1 _ rfl; (with_reducible repeat (first | refine blk_drewN ?_ _ | refine blk_drew ?_ | refine blk_alloc ?_ _)); refine blk_put (cs := #[.int .i64 0, .slice none 0 0]) ?_ 0 _ rfl; (with_reducible repeat (first | refine blk_drewN ?_ _ | refine blk_drew ?_ | refine blk_alloc ?_ _)); exact BK176.out) Try.underlying46 rfl (by kernel_rfl)) rfl ?_
        exact ⟨_, by first | rfl | (simp [errW_none, errW_some] <;> rfl) | (simp [*, errW_none, errW_some] <;> rfl), by (with_reducible repeat (first | apply Kd.S_alloc | apply Kd.S_drewN | apply Kd.S_drew)); exact Kd.S_mono (Kd.S_far (p := ⟨gb176, 1, none⟩) (Kd.S_far (p := ⟨gb176, 0, none⟩) (Kd.S_types HO_181001.out BK176.out (by decide)) (fun _ hk => hk.2) (.int .i64 a0_0)) (fun _ hk => hk.2) (.slice Ao30 x181001_1.length co30)) (fun _ hk => trivial), by repeat (first | (with_reducible first | exact HB.out | apply below_alloc | apply pw_below_drewN | apply below_drew1 | refine below_set ?_ GE175.out | refine below_set ?_ GE176.out | refine below_set ?_ GE180.out) | exact HB.out)⟩

/-! ### slices_Delete_int_int: function 127 -/
-- USES delete
set_option maxHeartbeats 1600000 in
set_option maxRecDepth 1000000 in
theorem delete_rows (base g n cap i : Nat) (xs : List Value) (w : World) (HO : w.ownsRow base 26 1 (.slice (some ⟨g, 0, none⟩) n cap) n xs) (h1x : ∀ u ∈ xs, u.oneCell' = true) (hi : i < n) (hn : n ≤ 1000000000) :
    Calls Try.prog 127 #[.slice (some ⟨g, 0, none⟩) n cap, .int .i64 i, .int .i64 ((i : Int) + 1)] w fun e w' => e = .returned (.slice (some ⟨g, 0, none⟩) (n - 1) cap) ∧ w'.ownsRow base 26 1 (.slice (some ⟨g, 0, none⟩) (n - 1) cap) (n - 1) (xs.take (i * 1) ++ xs.drop ((i + 1) * 1)) ∧ w.grownBy w' (some g) := by
  obtain ⟨m, rfl⟩ : ∃ m, n = i + 1 + m := ⟨n - (i + 1), by omega⟩
  have HO' := Aside0.mk HO
  clear HO
  have hi1 : (i : Int) < ((i + 1 + m : Nat) : Int) := by omega
  have hi2 : ((i : Int) + 1).toNat = i + 1 := by omega
  have hi3 : (i : Int) + 1 ≤ ((i + 1 + m : Nat) : Int) := by omega
  have hi4 : (0 : Int) ≤ (i : Int) + 1 := by omega
  have hi5 : (i : Int) ≤ (i : Int) + 1 := by omega
  have hi6 : ((i : Int) == (i : Int) + 1) = false := by simp; omega
  have hnc : i + 1 + m ≤ cap := by
    rcases HO'.out.2 with ⟨h, _⟩ | ⟨g', cap', cur, h, _, _, h2, _⟩
    · cases h
    · injection h with h1 h3 h4; omega
  have hi7 : (i : Int) + 1 ≤ (i : Int) + 1 + (m : Int) := by omega
  have hnc3 : (i : Int) + 1 + (m : Int) ≤ (cap : Int) := by omega
  have hnc2 : ((i + 1 + m : Nat) : Int) ≤ (cap : Int) := by omega
  have hl : xs.length = (i + 1 + m) * 1 := HO'.out.1
  have e31 : (i + 1) * 1 = i * 1 + 1 := by omega
  have hcell : ∀ j, j < (i + 1 + m) * 1 → w.drew.cell? ⟨g, j, none⟩ = xs[j]? := by
    intro j hj
    have := HO'.out.cells (g := g) rfl j (xs[j]'(by omega)) (List.getElem?_eq_getElem (by omega))
    rw [add_plain] at this
    rw [List.getElem?_eq_getElem (by omega)]
    exact this
  obtain ⟨A, hA, hnews⟩ : ∃ A : Addr, (if cap = i + 1 then some (⟨g, 0, none⟩ : Addr) else some ⟨g, (i + 1) * 1, none⟩) = some A ∧ Aside0 (∀ j u, (xs.drop ((i + 1) * 1))[j]? = some u → w.drew.cell? (A.add j) = some u) := by
    by_cases h : cap = i + 1
    · refine ⟨⟨g, 0, none⟩, by simp [h], ⟨fun j u hu => ?_⟩⟩
      rw [List.getElem?_eq_none (by rw [List.length_drop, hl]; omega)] at hu
      cases hu
    · refine ⟨⟨g, (i + 1) * 1, none⟩, by simp [h], ⟨fun j u hu => ?_⟩⟩
      have hj : j < (xs.drop ((i + 1) * 1)).length := (List.getElem?_eq_some_iff.1 hu).1
      rw [List.length_drop, hl] at hj
      rw [Addr.add_lit, hcell _ (by omega), ← hu, List.getElem?_drop]
  have s1 : Aside0 ((xs.drop ((i + 1) * 1)).length = m * 1) := ⟨by rw [List.length_drop, hl]; omega⟩
  have s2 : Aside0 (∀ u ∈ xs.drop ((i + 1) * 1), u.oneCell' = true) := ⟨fun u hu => h1x u (List.mem_of_mem_drop hu)⟩
  have hfz := own_frozen HO'.out
  have s3 : Aside0 (∀ j, j < (xs.drop ((i + 1) * 1)).length → (w.drew.cell? ⟨g, 0 + i * 1 + j, none⟩).isSome = true ∧ w.drew.frozen? ⟨g, 0 + i * 1 + j, none⟩ = false) := ⟨fun j hj => by
    rw [List.length_drop, hl] at hj
    rw [Nat.zero_add, hcell _ (by omega), List.getElem?_eq_getElem (by omega)]
    exact ⟨rfl, hfz _⟩⟩
  have hclr : (Builtin.clear_ #[38] 0 #[.slice (some ⟨g, (i + m) * 1, none⟩) (i + 1 + m - (i + m)) (cap - (i + m))]).run Try.prog (w.drew.setCells g (i * 1) (xs.drop ((i + 1) * 1))) = .ok (.tuple #[]) ((w.drew.setCells g (i * 1) (xs.drop ((i + 1) * 1))).setCells g ((i + m) * 1) [.slice none 0 0]) := by
    rw [show i + 1 + m - (i + m) = 1 by omega]
    refine run_clear_one _ 38 26 0 (.slice none 0 0) _ Try.underlying38 (fun _ => by kernel_rfl) (by kernel_rfl) (by simp [Value.oneCell']) g _ _ (fun j hj => ?_) (fun j hj => ?_)
    · refine World.isSome_setCells g _ _ _ _ ?_
      simp at hj
      rw [hcell _ (by omega), List.getElem?_eq_getElem (by omega)]
      rfl
    · rw [World.frozen?_setCells]; exact hfz _
  (try simp only [Nat.mul_one] at hclr)
  have hic : i ≤ cap := by omega
  obtain ⟨i0, hi0, hzz⟩ := Option.map_eq_some_iff.1 info26
  simp only [Prod.mk.injEq] at hzz
  obtain ⟨hz0, hz1, hz2⟩ := hzz
  have HC := Aside0.mk hcell
  have HL := Aside0.mk hl
  clear hcell hl e31 h1x hfz
  go_enter Try.func127, Try.ntmps127
  go_wp2_with fail
  go_region_law (refine step_append_room rfl (.tmp 22) (.tmp 25) 38 rfl 26 i0 1 Try.underlying38 hi0 hz1 g 0 i cap (by simp [Act.eval, Act.put]) A m (cap - (i + 1)) (xs.drop ((i + 1) * 1)) (by first | (simp [Act.eval, Act.put]; done) | (simp [Act.eval, Act.put]; simpa using hA)) s1.out hnews.out s2.out (by omega) s3.out ?_)
  go_wp2_with fail
  all_goals go_ret
  all_goals
    have hcut := own_cut (sz := 1) (zs := [.slice none 0 0]) (w := w.drew) (i := i) HO'.out (by omega) rfl
    rw [show i + 1 + m - 1 = i + m by omega] at hcut
    (try rw [show i + 1 + m - 1 = i + m by omega])
    (try simp only [Nat.mul_one] at hcut ⊢)
    first
      | exact ⟨rfl, hcut.1, ⟨hcut.2.os, hcut.2.tape, hcut.2.output, hcut.2.size, hcut.2.block⟩⟩
      | (rw [show cap = i + 1 by assumption] at hcut; exact ⟨rfl, hcut.1, ⟨hcut.2.os, hcut.2.tape, hcut.2.output, hcut.2.size, hcut.2.block⟩⟩)
theorem deleteR_rows {base : Nat} {ok : Nat → Prop} {v : Value} {l : List (List Int)} {i : Nat} {w : World} (HO : Kd.R (Kd.slice 3 (Kd.int .i64)) 26 w base ok v l) (hi : i < l.length) (hn : l.length ≤ 1000000000) :
    Calls Try.prog 127 #[v, .int .i64 i, .int .i64 ((i : Int) + 1)] w fun e w' => ∃ v', e = .returned v' ∧ Kd.R (Kd.slice 3 (Kd.int .i64)) 26 w' base ok v' (l.eraseIdx i) ∧ w.grownBy w' v.ownBlock := by
  obtain ⟨hok, inner, ho, hr⟩ := HO
  obtain ⟨g, cap, rfl, hb, hg⟩ := World.ownsRow.form ho (by omega)
  have h1 : ∀ u ∈ inner, u.oneCell' = true := by
    intro u hu
    obtain ⟨q, hq, rfl⟩ := List.getElem_of_mem hu
    have hq3 : q / (Kd.slice 3 (Kd.int .i64)).sz < l.length := (Nat.div_lt_iff_lt_mul (by decide)).2 (by rw [← hr.1]; exact hq)
    have := hr.2 (q / (Kd.slice 3 (Kd.int .i64)).sz) _ (List.getElem?_eq_getElem hq3)
    refine (Kd.slice 3 (Kd.int .i64)).K_one ((Kd.slice 3 (Kd.int .i64)).K_of_M this) _ ?_
    rw [List.mem_iff_getElem?]
    refine ⟨q % (Kd.slice 3 (Kd.int .i64)).sz, ?_⟩
    rw [List.getElem?_take_of_lt (Nat.mod_lt _ (by decide)), List.getElem?_drop, Nat.mul_comm, Nat.div_add_mod, List.getElem?_eq_getElem hq]
  refine (delete_rows base g l.length cap i inner w ho h1 hi hn).mono ?_
  rintro e w' ⟨rfl, ho', hg'⟩
  refine ⟨_, rfl, ⟨fun k hk => hok k hk, _, ?_, reps_erase (hr.imp_ (fun _ _ hp => ?_)) hi⟩, hg'⟩
  · rw [List.length_eraseIdx_of_lt hi]; exact ho'
  · exact Kd.M_grown hp hg' (fun k hk => hk.2)



/-! ### impl_Cards_dropped: function 80 -/
-- GIVEN (loop.example/g01305/impl.Cards).dropped rounds=1 only=1
-- NEEDS (loop.example/g01305/impl.Cards).own ; slices.Delete[[][]int,[]int]
theorem deleteT (f : Nat → Nat) {base : Nat} {ok : Nat → Prop} {v : Value} {l : List (List Int × Nat)} {i : Nat} {w : World} (HO : Kd.R (Kd.tag f (Kd.slice 3 (Kd.int .i64))) 26 w base ok v l) (hi : i < l.length) (hn : l.length ≤ 1000000000) :
    Calls Try.prog 127 #[v, .int .i64 i, .int .i64 ((i : Int) + 1)] w fun e w' => ∃ v', e = .returned v' ∧ Kd.R (Kd.tag f (Kd.slice 3 (Kd.int .i64))) 26 w' base ok v' (l.eraseIdx i) ∧ w.grownBy w' v.ownBlock := by
  obtain ⟨hok, inner, ho, hr⟩ := HO
  obtain ⟨g, cap, rfl, hb, hg⟩ := World.ownsRow.form ho (by omega)
  have hsz : (Kd.tag f (Kd.slice 3 (Kd.int .i64))).sz = 1 := rfl
  have h1 : ∀ u ∈ inner, u.oneCell' = true := by
    intro u hu
    obtain ⟨q, hq, rfl⟩ := List.getElem_of_mem hu
    have hq3 : q < l.length := by have := hr.1; rw [hsz, Nat.mul_one] at this; rw [← this]; exact hq
    have := hr.2 q _ (List.getElem?_eq_getElem hq3)
    refine (Kd.tag f (Kd.slice 3 (Kd.int .i64))).K_one ((Kd.tag f (Kd.slice 3 (Kd.int .i64))).K_of_M this) _ ?_
    rw [List.mem_iff_getElem?]
    refine ⟨0, ?_⟩
    rw [hsz, List.getElem?_take_of_lt (by omega), List.getElem?_drop, Nat.mul_one, Nat.add_zero, List.getElem?_eq_getElem hq]
  refine (delete_rows base g l.length cap i inner w ho h1 hi hn).mono ?_
  rintro e w' ⟨rfl, ho', hg'⟩
  refine ⟨_, rfl, ⟨fun k hk => hok k hk, _, ?_, reps_erase (hr.imp_ (fun _ _ hp => ?_)) hi⟩, hg'⟩
  · rw [List.length_eraseIdx_of_lt hi]; exact ho'
  · exact Kd.M_grown hp hg' (fun k hk => hk.2)
theorem deleteS {base : Nat} {ok : Nat → Prop} {v : Value} {l : List (List Int)} {i : Nat} {w : World} (HO : Kd.S (Kd.slice 3 (Kd.int .i64)) 26 w base ok v l) (hi : i < l.length) (hn : l.length ≤ 1000000000) :
    Calls Try.prog 127 #[v, .int .i64 i, .int .i64 ((i : Int) + 1)] w fun e w' => ∃ v', e = .returned v' ∧ Kd.S (Kd.slice 3 (Kd.int .i64)) 26 w' base ok v' (l.eraseIdx i) ∧ w.grownBy w' v.ownBlock := by
  obtain ⟨f, hR⟩ := HO
  refine (deleteT f hR (by rw [List.length_zipIdx]; exact hi) (by rw [List.length_zipIdx]; exact hn)).mono ?_
  rintro e w' ⟨v', rfl, h', hg⟩
  exact ⟨v', rfl, Kd.S_erase h', hg⟩
def impl_Cards_dropped.f (k : Nat) (a0 : Int) (l0 : List (List Int)) (a1 : Int) : Option (Int × List (List Int)) := (impl_Cards_own.f k a0 l0).bind fun r => if 0 ≤ a1 ∧ a1 < (r.2.length : Int) ∧ r.2.length ≤ 1000000 then some (r.1, r.2.eraseIdx a1.toNat) else none
theorem impl_Cards_dropped.mono : ∀ (a0 : Int) (l0 : List (List Int)) (a1 : Int) k, LeO (impl_Cards_dropped.f k a0 l0 a1) (impl_Cards_dropped.f (k + 1) a0 l0 a1) := by
  intro a0 l0 a1 k r h
  unfold impl_Cards_dropped.f at h ⊢
  obtain ⟨x, h1, h2⟩ := Option.bind_eq_some_iff.mp h
  rw [impl_Cards_own.mono a0 l0 k x h1]
  exact h2
set_option maxHeartbeats 4000000 in
set_option maxRecDepth 100000 in
theorem impl_Cards_dropped.calls (k : Nat) (a0_0 : Int) (A0_1 : Option Addr) (c0_1 : Nat) (l0_1 : List (List Int)) (a1 : Int) (r1 : Int) (r2 : List (List Int)) (w : World) (hr0_1 : Kd.C (Kd.slice 3 (Kd.int .i64)) w A0_1 l0_1.length l0_1) (hc0_1 : l0_1.length ≤ c0_1) (h : impl_Cards_dropped.f k a0_0 l0_1 a1 = some (r1, r2)) :
    Calls Try.prog 80 #[.agg #[.int .i64 a0_0, .slice A0_1 l0_1.length c0_1], .int .i64 a1] w fun e w' => ∃ v1_ : Value, e = .returned (.agg #[.int .i64 r1, v1_]) ∧ Kd.S (Kd.slice 3 (Kd.int .i64)) 26 w' w.heap.size (fun _ => True) v1_ r2 ∧ Below w.heap.size w w' := by
  unfold impl_Cards_dropped.f at h
  obtain ⟨⟨n, l⟩, h1, h⟩ := Option.bind_eq_some_iff.mp h
  by_cases c : 0 ≤ a1 ∧ a1 < (l.length : Int) ∧ l.length ≤ 1000000
  case neg => rw [if_neg c] at h; cases h
  rw [if_pos c] at h
  obtain ⟨rfl, rfl⟩ := Prod.mk.inj (Option.some.inj h)
  obtain ⟨i, rfl⟩ := Int.eq_ofNat_of_zero_le c.1
  have hi : i < l.length := by have := c.2.1; omega
  have hn : l.length ≤ 1000000 := c.2.2
  have ha : (i : Int) + 1 ≤ 9223372036854775807 := by omega
  have HR := Aside0.mk hr0_1
  have HF := Aside0.mk h1
  have HH := Aside0.mk hi
  have HN := Aside0.mk hn
  -- the argument's box, and the result's
  have HX0 := Aside0.mk (blk_alloc (blk_new w (.cells #[.int .i64 a0_0, .slice A0_1 l0_1.length c0_1] 46)) (.cells #[.int .i64 0, .slice none 0 0] 46))
  have HY0 : Aside0 (((w.alloc (.cells #[.int .i64 a0_0, .slice A0_1 l0_1.length c0_1] 46)).alloc (.cells #[.int .i64 0, .slice none 0 0] 46)).heap[w.heap.size + 1]? = some (.cells #[.int .i64 0, .slice none 0 0] 46 (0, 0))) := ⟨by
    have := blk_new (w.alloc (.cells #[.int .i64 a0_0, .slice A0_1 l0_1.length c0_1] 46)) (.cells #[.int .i64 0, .slice none 0 0] 46)
    simpa using this⟩
  have HB0 := Aside0.mk (below_alloc (below_alloc (Below.refl w.heap.size w) (.cells #[.int .i64 a0_0, .slice A0_1 l0_1.length c0_1] 46)) (.cells #[.int .i64 0, .slice none 0 0] 46))
  clear h h1 hr0_1 hi hn c
  go_enter Try.func80, Try.ntmps80
  go_wp2_with (first
    | (go_at_call 76; refine (impl_Cards_own.calls k a0_0 A0_1 c0_1 l0_1 n l _ (Kd.C_below HR.out HB0.out) hc0_1 HF.out).mono ?_; rintro e w1 ⟨v1, rfl, ho1, hb1⟩; obtain ⟨A1, c1, rfl⟩ := Kd.S_slice ho1; have HO1 := Aside0.mk ho1; have HY1 := Aside0.mk (blk_below HY0.out hb1); have HB1 := Aside0.mk (below_step HB0.out hb1); have HL1 := Aside0.mk (Nat.le_trans HB0.out.size (Nat.le_refl _)); clear ho1 hb1)
    | (go_at_call 127; refine Aside0.out ?_))
  refine Aside0.mk ?_
  refine (deleteS (Kd.S_alloc HO1.out (.cells #[.int .i64 n, .slice A1 l.length c1] 46)) HH.out (by have := HN.out; omega)).mono ?_
  rintro e w2 ⟨v2, rfl, ho2, hg2⟩
  obtain ⟨A2, c2, rfl⟩ := Kd.S_slice ho2
  have HX2 := Aside0.mk (blk_grown (blk_new w1 (.cells #[.int .i64 n, .slice A1 l.length c1] 46)) hg2 (Kd.S_ne (Kd.S_alloc HO1.out (.cells #[.int .i64 n, .slice A1 l.length c1] 46)) (blk_new w1 (.cells #[.int .i64 n, .slice A1 l.length c1] 46)) (by decide)))
  have HY2 := Aside0.mk (blk_grown (blk_alloc HY1.out (.cells #[.int .i64 n, .slice A1 l.length c1] 46)) hg2 (Kd.S_ne (Kd.S_alloc HO1.out (.cells #[.int .i64 n, .slice A1 l.length c1] 46)) (blk_alloc HY1.out (.cells #[.int .i64 n, .slice A1 l.length c1] 46)) (by decide)))
  have hlt : w.heap.size + 1 < w1.heap.size := blk_lt HY1.out
  have hne : w.heap.size + 1 ≠ w1.heap.size := by omega
  have HS1 := Kd.S_lower (base' := w.heap.size) (Kd.S_alloc HO1.out (.cells #[.int .i64 n, .slice A1 l.length c1] 46)) (by simp; omega)
  obtain ⟨inner_, hown_⟩ := Kd.S_own HS1
  have HB2 : Aside0 (Below w.heap.size w w2) := ⟨(below_alloc HB1.out (.cells #[.int .i64 n, .slice A1 l.length c1] 46)).grown hg2 (below_alloc HB1.out (.cells #[.int .i64 n, .slice A1 l.length c1] 46)).size (own_base hown_)⟩
  clear hown_ HS1
  have HO2 := Aside0.mk ho2
  generalize hm : (l.eraseIdx i).length = m at *
  have HX3 := Aside0.mk (blk_put HX2.out 1 (.slice A2 m c2) (cs' := #[.int .i64 n, .slice A2 m c2]) rfl)
  have HY3 := Aside0.mk (blk_far HY2.out (p := ⟨w1.heap.size, 1, none⟩) hne (.slice A2 m c2))
  have hx0 : w2.cell? ⟨w1.heap.size, 1, none⟩ = some (.slice A1 l.length c1) := (blk_cell HX2.out 1).trans rfl
  have hx1 := blk_frozen HX2.out 1
  have hx3 : (w2.setCell ⟨w1.heap.size, 1, none⟩ (.slice A2 m c2)).cell? ⟨w1.heap.size, 0, none⟩ = some (.int .i64 n) := (blk_cell HX3.out 0).trans rfl
  have hx4 : (w2.setCell ⟨w1.heap.size, 1, none⟩ (.slice A2 m c2)).cell? ⟨w1.heap.size, 1, none⟩ = some (.slice A2 m c2) := (blk_cell HX3.out 1).trans rfl
  have hy3 : (w2.setCell ⟨w1.heap.size, 1, none⟩ (.slice A2 m c2)).cell? ⟨w.heap.size + 1, 0, none⟩ = some (.int .i64 0) := (blk_cell HY3.out 0).trans rfl
  have hy4 : (w2.setCell ⟨w1.heap.size, 1, none⟩ (.slice A2 m c2)).cell? ⟨w.heap.size + 1, 1, none⟩ = some (.slice none 0 0) := (blk_cell HY3.out 1).trans rfl
  have hy5 := blk_frozen HY3.out 0
  have hy6 := blk_frozen HY3.out 1
  clear ho2 hg2
  have HYE := Aside0.mk (blk_put (blk_put HY3.out 0 (.int .i64 n) (cs' := #[.int .i64 n, .slice none 0 0]) rfl) 1 (.slice A2 m c2) (cs' := #[.int .i64 n, .slice A2 m c2]) rfl)
  have HS3 := Aside0.mk (Kd.S_set HO2.out HX2.out (by decide) 1 (.slice A2 m c2))
  have HS4 := Aside0.mk (Kd.S_set HS3.out HY3.out (by decide) 0 (.int .i64 n))
  have HS5 := Aside0.mk (Kd.S_set HS4.out (blk_put HY3.out 0 (.int .i64 n) (cs' := #[.int .i64 n, .slice none 0 0]) rfl) (by decide) 1 (.slice A2 m c2))
  have HB3 := Aside0.mk (Below.setCell HB2.out (p := ⟨w1.heap.size, 1, none⟩) (Nat.le_of_lt (Nat.lt_of_le_of_lt (Nat.le_succ _) hlt)) (.slice A2 m c2))
  have HB4 := Aside0.mk (Below.setCell HB3.out (p := ⟨w.heap.size + 1, 0, none⟩) (Nat.le_succ _) (.int .i64 n))
  have HB5 := Aside0.mk (Below.setCell HB4.out (p := ⟨w.heap.size + 1, 1, none⟩) (Nat.le_succ _) (.slice A2 m c2))
  have HLE : Aside0 (w.heap.size ≤ ((w.alloc (.cells #[.int .i64 a0_0, .slice A0_1 l0_1.length c0_1] 46)).alloc (.cells #[.int .i64 0, .slice none 0 0] 46)).heap.size) := ⟨HB0.out.size⟩
  clear hlt hne
  go_wp2
  refine bodyPost_ret (results_cell_row rfl _ _ (w.heap.size + 1) 46 #[.int .i64 n, .slice A2 m c2] (0, 0) _ rfl HYE.out Try.underlying46 rfl (by kernel_rfl)) rfl ?_
  exact ⟨_, rfl, by rw [Int.toNat_natCast]; exact Kd.S_lower HS5.out HLE.out, HB5.out⟩


/-! ### cmp_isNaN_int: function 166 -/
def cmp_isNaN_int.f (a0 : Int) : Option (Bool) := some (a0 != a0)
set_option maxHeartbeats 8000000 in
set_option maxRecDepth 100000 in
theorem cmp_isNaN_int.calls (a0 : Int) (r : Bool) (w : World) (h : cmp_isNaN_int.f a0 = some r) :
    Calls Try.prog 166 #[.int .i64 a0] w fun e w' => e = .returned (.bool r) ∧ Drawn0 w w' := by
  have H : (some (a0 != a0)) = some r := h
  clear h
  obtain rfl := Option.some.inj H
  go_enter Try.func166, Try.ntmps166
  go_wp2
  go_ret
  exact ⟨by first | rfl | (simp; done) | (simp [*]; done), by repeat (first | exact Drawn0.refl _ | apply Drawn0.step)⟩

/-! ### cmp_Less_int: function 157 -/
def cmp_Less_int.f (a0 : Int) (a1 : Int) : Option (Bool) := (cmp_isNaN_int.f a0).bind fun t188 => (if t188 = true then ((cmp_isNaN_int.f a1).bind fun t189 => (if t189 = true then (some (decide (a0 < a1))) else (some true))) else (some (decide (a0 < a1))))
set_option maxHeartbeats 8000000 in
set_option maxRecDepth 100000 in
theorem cmp_Less_int.calls (a0 : Int) (a1 : Int) (r : Bool) (w : World) (h : cmp_Less_int.f a0 a1 = some r) :
    Calls Try.prog 157 #[.int .i64 a0, .int .i64 a1] w fun e w' => e = .returned (.bool r) ∧ Drawn0 w w' := by
  have H : ((cmp_isNaN_int.f a0).bind fun t188 => (if t188 = true then ((cmp_isNaN_int.f a1).bind fun t189 => (if t189 = true then (some (decide (a0 < a1))) else (some true))) else (some (decide (a0 < a1))))) = some r := h
  clear h
  replace H := Option.bind_eq_some_iff.mp H
  obtain ⟨t188, A30, H⟩ := H
  replace H : (if t188 = true then ((cmp_isNaN_int.f a1).bind fun t189 => (if t189 = true then (some (decide (a0 < a1))) else (some true))) else (some (decide (a0 < a1)))) = some r := H
  have A3 := Aside0.mk A30
  clear A30
  by_cases c4 : t188 = true
  · subst c4
    have H1 : ((cmp_isNaN_int.f a1).bind fun t189 => (if t189 = true then (some (decide (a0 < a1))) else (some true))) = some r := by rw [if_pos rfl] at H; exact H
    clear H
    have H := H1
    clear H1
    replace H := Option.bind_eq_some_iff.mp H
    obtain ⟨t189, A50, H⟩ := H
    replace H : (if t189 = true then (some (decide (a0 < a1))) else (some true)) = some r := H
    have A5 := Aside0.mk A50
    clear A50
    by_cases c6 : t189 = true
    · subst c6
      have H1 : (some (decide (a0 < a1))) = some r := by rw [if_pos rfl] at H; exact H
      clear H
      have H := H1
      clear H1
      obtain rfl := Option.some.inj H
      go_enter Try.func157, Try.ntmps157
      go_wp2_with (first | ((with_reducible refine gate_callee (f := 166) rfl ?_); refine goesL_ (some 6) rfl rfl Try.func166 (by kernel_rfl) rfl #[.int .i64 a0] rfl (by (try simp only [List.map_toArray, List.map_cons, List.map_nil]); first | done | rfl | (simp only [List.length_drop, List.length_take]; rfl)) ?_; (with_reducible refine (cmp_isNaN_int.calls a0 true _ A3.out).mono ?_); rintro e w' ⟨rfl, ⟨nd, rfl⟩⟩; refine ⟨_, rfl, ?_⟩) | (go_at_call 166; (with_reducible refine (cmp_isNaN_int.calls a1 true _ A5.out).mono ?_); rintro e w' ⟨rfl, ⟨nd, rfl⟩⟩))
      go_ret
      exact ⟨by first | rfl | (simp; done) | (simp [*]; done), by repeat (first | exact Drawn0.refl _ | apply Drawn0.step)⟩
    · replace c6 := Bool.eq_false_iff.mpr c6
      subst c6
      have H1 : (some true) = some r := by rw [if_neg (show ¬ (false = true) by decide)] at H; exact H
      clear H
      have H := H1
      clear H1
      obtain rfl := Option.some.inj H
      go_enter Try.func157, Try.ntmps157
      go_wp2_with (first | ((with_reducible refine gate_callee (f := 166) rfl ?_); refine goesL_ (some 6) rfl rfl Try.func166 (by kernel_rfl) rfl #[.int .i64 a0] rfl (by (try simp only [List.map_toArray, List.map_cons, List.map_nil]); first | done | rfl | (simp only [List.length_drop, List.length_take]; rfl)) ?_; (with_reducible refine (cmp_isNaN_int.calls a0 true _ A3.out).mono ?_); rintro e w' ⟨rfl, ⟨nd, rfl⟩⟩; refine ⟨_, rfl, ?_⟩) | (go_at_call 166; (with_reducible refine (cmp_isNaN_int.calls a1 false _ A5.out).mono ?_); rintro e w' ⟨rfl, ⟨nd, rfl⟩⟩))
      go_ret
      exact ⟨by first | rfl | (simp; done) | (simp [*]; done), by repeat (first | exact Drawn0.refl _ | apply Drawn0.step)⟩
  · replace c4 := Bool.eq_false_iff.mpr c4
    subst c4
    have H1 : (some (decide (a0 < a1))) = some r := by rw [if_neg (show ¬ (false = true) by decide)] at H; exact H
    clear H
    have H := H1
    clear H1
    obtain rfl := Option.some.inj H
    go_enter Try.func157, Try.ntmps157
    go_wp2_with (first | ((with_reducible refine gate_callee (f := 166) rfl ?_); refine goesL_ (some 6) rfl rfl Try.func166 (by kernel_rfl) rfl #[.int .i64 a0] rfl (by (try simp only [List.map_toArray, List.map_cons, List.map_nil]); first | done | rfl | (simp only [List.length_drop, List.length_take]; rfl)) ?_; (with_reducible refine (cmp_isNaN_int.calls a0 false _ A3.out).mono ?_); rintro e w' ⟨rfl, ⟨nd, rfl⟩⟩; refine ⟨_, rfl, ?_⟩))
    go_ret
    exact ⟨by first | rfl | (simp; done) | (simp [*]; done), by repeat (first | exact Drawn0.refl _ | apply Drawn0.step)⟩

/-! ### slices_isNaN_int: function 165 -/
def slices_isNaN_int.f (a0 : Int) : Option (Bool) := some (a0 != a0)
set_option maxHeartbeats 8000000 in
set_option maxRecDepth 100000 in
theorem slices_isNaN_int.calls (a0 : Int) (r : Bool) (w : World) (h : slices_isNaN_int.f a0 = some r) :
    Calls Try.prog 165 #[.int .i64 a0] w fun e w' => e = .returned (.bool r) ∧ Drawn0 w w' := by
  have H : (some (a0 != a0)) = some r := h
  clear h
  obtain rfl := Option.some.inj H
  go_enter Try.func165, Try.ntmps165
  go_wp2
  go_ret
  exact ⟨by first | rfl | (simp; done) | (simp [*]; done), by repeat (first | exact Drawn0.refl _ | apply Drawn0.step)⟩

/-! ### slices_BinarySearch_int_int: function 156 -/
-- GIVEN slices.BinarySearch[[]int,int]
def sortedP : List Int → Bool
  | [] => true
  | x :: s => s.all (fun y => decide (x ≤ y)) && sortedP s
theorem sortedP_pair : ∀ (l : List Int), sortedP l = true → l.Pairwise (· ≤ ·)
  | [], _ => List.Pairwise.nil
  | x :: s, h => by
    simp only [sortedP, Bool.and_eq_true, List.all_eq_true, decide_eq_true_eq] at h
    exact List.Pairwise.cons h.1 (sortedP_pair s h.2)
def slices_BinarySearch_int_int.f (l : List Int) (x : Int) : Option (Int × Bool) := if sortedP l = true ∧ l.length < 4611686018427387904 then some ((l.countP (· < x) : Nat), l.contains x) else none
theorem slices_BinarySearch_int_int.calls (A0 : Option Addr) (c0 : Nat) (l0 : List Int) (a1 : Int) (r1 : Int) (r2 : Bool) (w : World) (hr0 : Kd.C (Kd.int .i64) w A0 l0.length l0) (hc0 : l0.length ≤ c0) (h : slices_BinarySearch_int_int.f l0 a1 = some (r1, r2)) :
    Calls Try.prog 156 #[.slice A0 l0.length c0, .int .i64 a1] w fun e w' => e = .returned (.tuple #[.int .i64 r1, .bool r2]) ∧ Below w.heap.size w w' := by
  unfold slices_BinarySearch_int_int.f at h
  by_cases c : sortedP l0 = true ∧ l0.length < 4611686018427387904
  case neg => rw [if_neg c] at h; cases h
  rw [if_pos c] at h
  obtain ⟨rfl, rfl⟩ := Prod.mk.inj (Option.some.inj h)
  cases l0 with
  | nil =>
    refine (Go.Proofs.YtfiikhdkohgmfaaW.Shelf.slices_BinarySearch_int_empty A0 c0 a1 w).mono ?_
    rintro e w' ⟨rfl, rfl⟩
    exact ⟨rfl, Below.refl _ _⟩
  | cons y s =>
    obtain ⟨ad, e1, hx⟩ := Kd.at_int hr0 0 (by omega) (by simp)
    subst e1
    obtain ⟨b, off, spot⟩ := ad
    cases spot with
    | some q =>
      exfalso
      unfold World.cell? at hx
      split at hx
      · simp [Addr.add] at hx
      · cases hx
    | none =>
      refine (Go.Proofs.YtfiikhdkohgmfaaW.Shelf.slices_BinarySearch_int b off (y :: s).length c0 (y :: s) a1 w (Nat.le_refl _) c.2 (fun j hj => ?_) (by rw [List.take_length]; exact sortedP_pair _ c.1)).mono ?_
      · obtain ⟨ad, e1, hx⟩ := Kd.at_int hr0 (j : Int) (by omega) (by omega)
        cases e1
        have e2 : (⟨b, off, none⟩ : Addr).add j = ⟨b, off + j, none⟩ := by unfold Addr.add; split <;> simp_all
        rw [Int.toNat_natCast, e2] at hx
        rw [hx]; simp [rd]
      · rintro e w' ⟨rfl, q, rfl⟩
        rw [List.take_length]
        exact ⟨rfl, by first | exact Below.drewN (Below.refl _ _) _ | exact below_drewN (Below.refl _ _) _ | exact pw_below_drewN (Below.refl _ _) _⟩


end Go.Proofs.Ytfiikhdkohgmfaa.PFnExactNeedlessCards
