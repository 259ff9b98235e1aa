-- MADE FOR THIS CLAIM by wip/xp/xprint.py (with the kit's print; some functions' contracts proved by hand)
import Derived.Test.YtkbllhlmcfjcdaaPFnChangeLeftx0
import Derived.Test.YtkbllhlmcfjcdaaPFnChangeLeftx4
import Derived.Test.YtkbllhlmcfjcdaaPFnChangeLeftx12
set_option maxHeartbeats 8000000
set_option maxRecDepth 100000
namespace Go.Proofs.Ytkbllhlmcfjcdaa.PFnChangeLeft
open Go.RowKit Go.Proofs.YtkbllhlmcfjcdaaW.PrintWords Go.Proofs.YtkbllhlmcfjcdaaW.PrintLast Go.Proofs.YtkbllhlmcfjcdaaW.PrintMore Go.Proofs.Ytkbllhlmcfjcdaa.Xmv
attribute [local go_sem] max2_int min2_int max_two min_two max_three min_three max_four min_four   -- for this text's walks alone
set_option linter.unusedVariables false
set_option linter.unusedSimpArgs false

/-! ### spec_NeedlessCoins: function 20 -/
def spec_NeedlessCoins.l0 : Nat → List Int → List Int → List Int → Int → Int → Option (List Int × Bool)
 | 0, _, _, _, _, _ => none
 | k + 1, x0, x4, x11, x12, x13 => if x13 < x12 then (if 0 ≤ x13 then (if x13 < (x11.length : Int) then (if x13 ≤ (x0.length : Int) then ((spec_l1Own.f (x0.take (x13 : Int).toNat)).bind fun t492 => (if 0 ≤ (wrap64 (x13 + 1)) then (if (wrap64 (x13 + 1)) ≤ (x0.length : Int) then (if t492.length + (x0.drop ((wrap64 (x13 + 1)) : Int).toNat).length < 17592186044416 then ((spec_cnFewer.f k (t492 ++ (x0.drop ((wrap64 (x13 + 1)) : Int).toNat)) (rd x11 x13)).bind fun t499 => (if 0 ≤ (rd x11 x13) then (if (rd x11 x13) < (t499.length : Int) then (if (rd t499 (rd x11 x13)) ≥ 0 then (if x4.length < 17592186044416 then (spec_NeedlessCoins.l0 k x0 (x4 ++ [rd x11 x13]) x11 x12 (wrap64 (x13 + 1))) else (none)) else (spec_NeedlessCoins.l0 k x0 x4 x11 x12 (wrap64 (x13 + 1)))) else (none)) else (none))) else (none)) else (none)) else (none))) else (none)) else (none)) else (none)) else (some (x4, true))
def spec_NeedlessCoins.f (k : Nat) (l0 : List Int) : Option (List Int × Bool) := (spec_cnGood.f k l0).bind fun t489 => (if t489 = true then (spec_NeedlessCoins.l0 k l0 ([] : List Int) l0 (l0.length : Int) 0) else (some (([] : List Int), false)))
def spec_NeedlessCoins.T7 : Bool × List (List Nat × List Nat) := (true, [([], []), ([], []), ([0, 1], [0, 1]), ([2], [2]), ([], []), ([], []), ([5], [5]), ([4, 6], [4, 6]), ([3, 7, 3], [3, 7]), ([8, 8, 0, 1, 2, 3, 4, 5, 6, 7, 8], [8])])
def spec_NeedlessCoins.B7 : List Nat := [0, 0, 3, 7, 0, 0, 32, 112, 255, 511]
theorem spec_NeedlessCoins.tab7 : rtab .any (opsOf Try.f20 7) = spec_NeedlessCoins.T7 := by kernel_rfl
theorem spec_NeedlessCoins.bits7 : waitsOk spec_NeedlessCoins.T7.2 spec_NeedlessCoins.B7 = true := by kernel_rfl
theorem spec_NeedlessCoins.calls (k : Nat) (A0 : Option Addr) (c0 : Nat) (l0 : List Int) (r1 : List Int) (r2 : Bool) (w : World) (hr0 : Kd.C (Kd.int .i64) w A0 l0.length l0) (hc0 : l0.length ≤ c0) (h : spec_NeedlessCoins.f k l0 = some (r1, r2)) :
 Calls Try.prog 20 #[.slice A0 l0.length c0] w fun e w' => ∃ v0_ : Value, e = .returned (.tuple #[v0_, .bool r2]) ∧ Kd.R (Kd.int .i64) 3 w' w.heap.size (fun _ => True) v0_ r1 ∧ Below w.heap.size w w' := by
 have HR0 := Aside0.mk hr0
 have HC0 := Aside0.mk hc0
 clear hr0 hc0
 have HB := Aside0.mk (Below.refl w.heap.size w)
 have H := h; unfold spec_NeedlessCoins.f at H
 clear h
 replace H := Option.bind_eq_some_iff.mp H
 obtain ⟨t489, A20, H⟩ := H
 have A2 := Aside0.mk A20
 clear A20
 replace H := Iw H; rcases H with ⟨rfl, H⟩ | ⟨rfl, H⟩
 · have H' := Aside0.mk H
   clear H
   go_enter Try.func20, Try.ntmps20
   go_wp2_with (first | (refine Gl 9 #[.slice A0 l0.length c0] Try.func60 ?_; (with_reducible refine (spec_cnGood.calls k _ _ l0 true _ (Cm HR0.out) HC0.out A2.out).mono ?_); rintro e w' ⟨rfl, ⟨nd, rfl⟩⟩; refine ⟨_, rfl, ?_⟩))
   go_loopg [4, 13] k (fun kq v4 v13 w' => ∃ (x4_1 : List Int) (x13_1 : Int), v13 = .int .i64 x13_1 ∧ Aside0 (spec_NeedlessCoins.l0 kq l0 x4_1 l0 (l0.length : Int) x13_1 = some (r1, r2)) ∧ Aside0 (kq ≤ k) ∧ Aside0 (Kd.R (Kd.int .i64) 3 w' w.heap.size (fun _ => True) v4 x4_1) ∧ Aside0 (Below w.heap.size w w'))
   case atStart => exact ⟨(([] : List Int)), (0), Rs, H', ⟨Nat.le_refl _⟩, ⟨Nl⟩, ⟨Ub⟩⟩
   case round =>
    clear H'
    obtain ⟨x4_1, x13_1, rfl, HA, HK1, HO_4, HB⟩ := hrel
    cases gk with
    | zero => exact absurd HA.out (by simp [spec_NeedlessCoins.l0])
    | succ k1 =>
     have H := HA.out
     clear HA
     simp only [spec_NeedlessCoins.l0] at H
     replace H := Ic H; rcases H with ⟨c4, H⟩ | ⟨c4, H⟩
     · have c4b0 := decide_eq_true c4
       clear c4
       replace H := Ip H; obtain ⟨c5, H⟩ := H
       have c5b0 := decide_eq_true c5
       clear c5
       replace H := Ip H; obtain ⟨c6, H⟩ := H
       have c6b0 := decide_eq_true c6
       clear c6
       have c7b0 := eq_true (Oa : 0 ≤ x13_1)
       replace H := Ip H; obtain ⟨c8, H⟩ := H
       have c8b0 := eq_true c8
       have c8b1 := decide_eq_true c8
       clear c8
       replace H := Option.bind_eq_some_iff.mp H
       obtain ⟨t492, A90, H⟩ := H
       have A9 := Aside0.mk A90
       clear A90
       obtain ⟨ji10, hji10⟩ : ∃ j_ : Int, (wrap64 (x13_1 + 1)) = j_ := ⟨_, rfl⟩
       replace H : (if 0 ≤ (ji10) then (if (ji10) ≤ (l0.length : Int) then (if t492.length + (l0.drop ((ji10) : Int).toNat).length < 17592186044416 then ((spec_cnFewer.f k1 (t492 ++ (l0.drop ((ji10) : Int).toNat)) (rd l0 x13_1)).bind fun t499 => (if 0 ≤ (rd l0 x13_1) then (if (rd l0 x13_1) < (t499.length : Int) then (if (rd t499 (rd l0 x13_1)) ≥ 0 then (if x4_1.length < 17592186044416 then (spec_NeedlessCoins.l0 k1 l0 (x4_1 ++ [rd l0 x13_1]) l0 (l0.length : Int) ji10) else (none)) else (spec_NeedlessCoins.l0 k1 l0 x4_1 l0 (l0.length : Int) ji10)) else (none)) else (none))) else (none)) else (none)) else (none)) = some (r1, r2) := by first | (rw [hji10] at H; exact H) | (simp only [hji10] at H ⊢; exact H)
       (try rw [hji10] at A9)
       have hji10w : (IntKind.i64.wrap (x13_1 + 1)) = ji10 := (i64_w _).trans hji10
       replace H := Ip H; obtain ⟨c11, H⟩ := H
       have c11b0 := eq_true c11
       have c11b1 := decide_eq_true c11
       clear c11
       replace H := Ip H; obtain ⟨c12, H⟩ := H
       have c12b0 := eq_true c12
       have c12b1 := decide_eq_true c12
       clear c12
       replace H := Ip H; obtain ⟨c13, H⟩ := H
       have LMc13 := Aside0.mk c13
       clear c13
       obtain ⟨y496, hy496⟩ : ∃ y_ : List Int, y_ = (t492 ++ (l0.drop ((ji10) : Int).toNat)) := ⟨_, rfl⟩
       replace H : ((spec_cnFewer.f k1 y496 (rd l0 x13_1)).bind fun t499 => (if 0 ≤ (rd l0 x13_1) then (if (rd l0 x13_1) < (t499.length : Int) then (if (rd t499 (rd l0 x13_1)) ≥ 0 then (if x4_1.length < 17592186044416 then (spec_NeedlessCoins.l0 k1 l0 (x4_1 ++ [rd l0 x13_1]) l0 (l0.length : Int) ji10) else (none)) else (spec_NeedlessCoins.l0 k1 l0 x4_1 l0 (l0.length : Int) ji10)) else (none)) else (none))) = some (r1, r2) := by first | (rw [hy496]; with_reducible exact H) | (have H2_ := (Option.bind_some _ _).symm.trans H; rw [hy496]; with_reducible exact H2_) | (have H2_ := (Option.bind_some _ _).symm.trans H; with_reducible exact H2_) | with_reducible exact H | (rw [hy496]; exact H) | exact H
       have Ny496 := Aside0.mk hy496
       clear hy496
       replace H := Option.bind_eq_some_iff.mp H
       obtain ⟨t499, A140, H⟩ := H
       have A14 := Aside0.mk A140
       clear A140
       replace H := Ip H; obtain ⟨c15, H⟩ := H
       have c15b0 := decide_eq_true c15
       clear c15
       replace H := Ip H; obtain ⟨c16, H⟩ := H
       have c16b0 := decide_eq_true c16
       clear c16
       replace H := Ic H; rcases H with ⟨c17, H⟩ | ⟨c17, H⟩
       · have c17b0 : decide (0 ≤ (rd t499 (rd l0 x13_1))) = true := decide_eq_true c17
         clear c17
         replace H := Ip H; obtain ⟨c18, H⟩ := H
         have LMc18 := Aside0.mk c18
         clear c18
         obtain ⟨y503, hy503⟩ : ∃ y_ : List Int, y_ = (x4_1 ++ [rd l0 x13_1]) := ⟨_, rfl⟩
         replace H : (spec_NeedlessCoins.l0 k1 l0 y503 l0 (l0.length : Int) ji10) = some (r1, r2) := by first | (rw [hy503]; with_reducible exact H) | (have H2_ := (Option.bind_some _ _).symm.trans H; rw [hy503]; with_reducible exact H2_) | (have H2_ := (Option.bind_some _ _).symm.trans H; with_reducible exact H2_) | with_reducible exact H | (rw [hy503]; exact H) | exact H
         have Ny503 := Aside0.mk hy503
         clear hy503
         have H' := Aside0.mk H
         clear H
         obtain ⟨p490, q490, ad490, e490, hx490_0⟩ := Ai HR0.out x13_1
         cases e490
         replace hx490_0 := (HB.out.cell (World.block_lt_of_cell? w _ hx490_0)).trans hx490_0
         try go_wp2
         replace HO_4 := Aside0.mk (Kd.R_drew HO_4.out); replace HB := Aside0.mk (below_drew1 HB.out)
         obtain ⟨i020, hi020, _, hsz20, _⟩ := info_parts info3
         obtain ⟨hcut20, hA20, hC20⟩ := print_take_of (P := Try.prog) (Value.int .i64) 0 24 3 .i64 Try.underlying24 hi020 hsz20 (some ad490) c0 l0 x13_1 (Oa) (Oa) HC0.out
         have HR491 := Aside0.mk (Kd.C_of_reads (h1 := fun _ => rfl) (hA20 _ (Kd.reads_of_C HR0.out)))
         have HC491 := Aside0.mk hC20
         clear hA20 hC20 hi020 hsz20
         obtain ⟨i021, hi021, _, hsz21, _⟩ := info_parts info3
         obtain ⟨A21, hcut21, hA21, hC21⟩ := print_drop_of (P := Try.prog) (Value.int .i64) 0 24 3 .i64 Try.underlying24 hi021 hsz21 (some ad490) c0 l0 (ji10) (Oa) (Oa) HC0.out
         have HR495 := Aside0.mk (Kd.C_of_reads (h1 := fun _ => rfl) (hA21 _ (Kd.reads_of_C HR0.out)))
         have HC495 := Aside0.mk hC21
         clear hA21 hC21 hi021 hsz21
         refine start_ (n := 10) (S := fun w' => True) (ds := []) #[false, false, false, false, false, false, false, false, false, false] (by kernel_rfl) rfl rfl trivial (fun hHeld => ?_); refine with_tabW spec_NeedlessCoins.tab7 spec_NeedlessCoins.bits7 (fun HT_ HW_ => ?_)
         generalize wr.drew = w19 at HO_4 HB HR491 HR495 hHeld ⊢
         refine Pu 0 18 #[true, false, false, false, false, false, false, false, false, false] HT_.out ?_
         refine Pu 1 19 #[true, true, false, false, false, false, false, false, false, false] HT_.out ?_
         refine Pu 2 20 #[true, true, true, false, false, false, false, false, false, false] HT_.out ?_
         refine Pu 4 22 #[true, true, true, false, true, false, false, false, false, false] HT_.out ?_
         refine Pu 5 23 #[true, true, true, false, true, true, false, false, false, false] HT_.out ?_
         refine Pu 6 24 #[true, true, true, false, true, true, true, false, false, false] HT_.out ?_
         refine Pu 7 25 #[true, true, true, false, true, true, true, true, false, false] HT_.out ?_
         refine one_ (i := 3) (N := some 21) #[true, true, true, true, true, true, true, true, false, false] rfl rfl (one_of HT_.out (by kernel_rfl)) (by decide) (fun K hK => ?_)
         refine goes_ Try.func64 (by kernel_rfl) rfl #[.slice (some ad490) (l0.take (x13_1 : Int).toNat).length c0] (by rfl) rfl rfl (by (try simp only [List.map_toArray, List.map_cons, List.map_nil]); first | done | (rw [show (l0.take (x13_1 : Int).toNat).length = x13_1.toNat from (by rw [List.length_take]; have h_ : (x13_1 : Int) ≤ (l0.length : Int) := Oa; omega)] <;> rfl) | rfl | (simp only [List.length_drop, List.length_take]; rfl)) ?_
         with_reducible refine (spec_l1Own.calls _ _ (l0.take (x13_1 : Int).toNat) t492 _ ?side1 ?side2 A9.out).mono ?_
         (case side1 => repeat (first | exact (Kd.C_below HR491.out HB.out) | (with_reducible refine Kd.C_alloc ?_ _) | (with_reducible refine Kd.C_drewN ?_ _) | (with_reducible refine Kd.C_drew ?_)))
         (case side2 => exact HC491.out)
         rintro e w22 ⟨v493, rfl, ho0, hb⟩
         refine ⟨_, rfl, ?_⟩
         have HO494 := Aside0.mk (Kd.R_lower (Kd.R_new' ho0 (Kd.R_lt (Rm HO_4.out))) (below_size Ub)); replace HO_4 := Aside0.mk (Kd.R_elder' (Rm HO_4.out) (Kd.R_base ho0) hb); replace HB := Aside0.mk (below_step Ub hb); (try clear hb); (try clear hb2); (try clear hk); (try clear hi); (try clear ho0)
         refine hK.out _ _ trivial (fun hHeld => ?_)
         clear hK K
         refine norm_ (a' := ?_) ?_ ?_
         rotate_left
         · show Act.put _ (some 21) _ = _
           simp only [Act.put, List.setIfInBounds_toArray, List.set_cons_zero, List.set_cons_succ, i64_w, i32_w]
           rfl
         refine one_ (i := 8) (N := some 26) #[true, true, true, true, true, true, true, true, true, false] rfl rfl (one_of HT_.out (by kernel_rfl)) (by decide) (fun K hK => ?_)
         refine Kd.R_append_rows_step (Kd.int .i64) (w0 := w) w.heap.size (by rfl) (.tmp 21) (.tmp 25) 24 3 (.int .i64 0) 8 rfl Try.underlying24 info3 rfl (by decide) (by omega) v493 t492 (l0.drop ((ji10) : Int).toNat) _ _ _ (fun k_ => some k_ ≠ (u4 : Value).ownBlock) (fun _ => False) rfl rfl ?aO ?aR (fun _ _ h => h) (fun _ h => h.elim) ?aF ?aB ?aS ?aL ?_
         (case aR => first | (rw [← show (l0.drop ((ji10) : Int).toNat).length = (l0.length - (ji10).toNat) from List.length_drop]; repeat (first | exact (Kd.C_below HR495.out HB.out) | (with_reducible refine Kd.C_alloc ?_ _) | (with_reducible refine Kd.C_drewN ?_ _) | (with_reducible refine Kd.C_drew ?_))) | (repeat (first | exact (Kd.C_below HR495.out HB.out) | (with_reducible refine Kd.C_alloc ?_ _) | (with_reducible refine Kd.C_drewN ?_ _) | (with_reducible refine Kd.C_drew ?_))))
         (case aB => exact Ub)
         (case aF => exact (fun k_ hk => Kd.fresh' (Kd.R_lt (Rm HO_4.out)) k_ hk))
         (case aO => exact (by (with_reducible repeat (first | apply Kd.R_alloc | apply Kd.R_drewN | apply Kd.R_drew)); exact Kd.R_mono HO494.out (fun _ hk => hk.2)))
         (case aS => exact (below_size Ub))
         (case aL => have := LMc13.out; have hlx_ := (show (l0.drop ((ji10) : Int).toNat).length = (l0.length - (ji10).toNat) from List.length_drop); omega)
         intro v497 w23 ho hb hg hat
         rw [← Ny496.out] at ho
         have n0_ := Aside0.mk (Kd.R_after (ok := (fun _ => True)) (Rm HO_4.out) hg hat); have n1_ := Aside0.mk (hb); have n2_ := Aside0.mk (ho); clear HO_4 HB HO494; have HO_4 := n0_; have HB := n1_; have HO498 := n2_; clear n0_ n1_ n2_ ho hb hg hat
         refine hK.out _ _ trivial (fun hHeld => ?_)
         clear hK K
         refine norm_ (a' := ?_) ?_ ?_
         rotate_left
         · show Act.put _ (some 26) _ = _
           simp only [Act.put, List.setIfInBounds_toArray, List.set_cons_zero, List.set_cons_succ, i64_w, i32_w]
           rfl
         refine Pu 9 7 #[true, true, true, true, true, true, true, true, true, true] HT_.out ?_
         refine done_ (done_of HT_.out (by kernel_rfl)) ?_
         obtain ⟨Ao24, co24, eo24⟩ := Kd.R_slice HO498.out
         subst eo24
         try go_wp2_with (first | (refine Gl 29 #[.slice Ao24 y496.length co24, .int .i64 (rd l0 x13_1)] Try.func65 ?_; (with_reducible refine (spec_cnFewer.calls k1 _ _ y496 (rd l0 x13_1) t499 _ (Cm (Kd.R_reads' HO498.out).2.2) ((Kd.R_reads' HO498.out).2.1) A14.out).mono ?_); rintro e w25 ⟨v500, rfl, ho0, hb⟩; refine ⟨_, rfl, ?_⟩; have HO501 := Aside0.mk (Kd.R_lower (Kd.R_new' (Kd.R_new' ho0 (Kd.R_lt (Rm HO_4.out))) (Kd.R_lt (Rm HO498.out))) (below_size Ub)); replace HO_4 := Aside0.mk (Kd.R_elder' (Rm HO_4.out) (Kd.R_base ho0) hb); replace HO498 := Aside0.mk (Kd.R_elder' (Rm HO498.out) (Kd.R_base ho0) hb); replace HB := Aside0.mk (below_step Ub hb); clear hb ho0; obtain ⟨Ao26, co26, eo26⟩ := Kd.R_slice HO501.out; subst eo26; have p502 : 0 ≤ ((rd l0 x13_1) : Int) := Oa; have q502 : (rd l0 x13_1) < (t499.length : Int) := Oa; obtain ⟨ad502, e502, hx502_0⟩ := Kd.at_int (Kd.R_reads' HO501.out).2.2 (rd l0 x13_1) p502 q502; cases e502; replace p502 := eq_true p502; replace q502 := eq_true q502) | ((with_reducible refine gate_builtin (b := .append) (xs := #[.tmp 34, .tmp 36]) rfl ?_); at_builtin; refine Kd.R_append (Kd.int .i64) (w0 := w) w.heap.size rfl (.tmp 34) (.tmp 36) 24 3 (.int .i64 0) 8 rfl Try.underlying24 info3 rfl (by decide) (by omega) u4 x4_1 (rd l0 x13_1) [.int .i64 (rd l0 x13_1)] (fun k_ => some k_ ≠ (.slice Ao24 y496.length co24 : Value).ownBlock ∧ some k_ ≠ (.slice (some ad502) t499.length co26 : Value).ownBlock) (fun _ => False) rfl rfl ?aP (fun _ hk => hk.elim) ?aF ?aO ?aB ?aS ?aL ?_; (case aP => exact rfl); (case aB => exact Ub); (case aF => exact (fun k_ hk => ⟨Kd.fresh' (Kd.R_lt (Rm HO498.out)) k_ hk, Kd.fresh' (Kd.R_lt (Rm HO501.out)) k_ hk⟩)); (case aO => exact (by (with_reducible repeat (first | apply Kd.R_alloc | apply Kd.R_drewN | apply Kd.R_drew)); exact Kd.R_mono HO_4.out (fun _ hk => ⟨hk.1.2, hk.2⟩))); (case aS => exact (below_size Ub)); (case aL => have := LMc18.out; omega); intro v504 w27 ho hb hg hat; rw [← Ny503.out] at ho; replace HO498 := Aside0.mk (Kd.R_after (ok := (fun k_ => some k_ ≠ (.slice (some ad502) t499.length co26 : Value).ownBlock)) (by (with_reducible repeat (first | apply Kd.R_alloc | apply Kd.R_drewN | apply Kd.R_drew)); exact Kd.R_mono HO498.out (fun _ hk => ⟨hk.2, hk.1⟩)) hg hat); replace HO501 := Aside0.mk (Kd.R_after (ok := (fun k_ => some k_ ≠ (.slice Ao24 y496.length co24 : Value).ownBlock)) (by (with_reducible repeat (first | apply Kd.R_alloc | apply Kd.R_drewN | apply Kd.R_drew)); exact Kd.R_mono HO501.out (fun _ hk => ⟨hk.2, hk.1.2⟩)) hg hat); replace HB := Aside0.mk (hb); have HO505 := Aside0.mk (ho); clear HO_4; clear ho hb hg hat))
         go_roundg k1
         case measure => have := HK1.out; omega
         case rel => exact ⟨(y503), (ji10), (by first | rfl | (simp; done) | (simp only [← hji10] <;> (first | rfl | simp)) | (simp [*]; done)), H', ⟨by have := HK1.out; omega⟩, ⟨by (with_reducible repeat (first | apply Kd.R_alloc | apply Kd.R_drewN | apply Kd.R_drew)); exact Kd.R_mono HO505.out (fun _ hk => trivial)⟩, ⟨Ub⟩⟩
       have c17b0 : decide (0 ≤ (rd t499 (rd l0 x13_1))) = false := decide_eq_false c17
       clear c17
       have H' := Aside0.mk H
       clear H
       obtain ⟨p490, q490, ad490, e490, hx490_0⟩ := Ai HR0.out x13_1
       cases e490
       replace hx490_0 := (HB.out.cell (World.block_lt_of_cell? w _ hx490_0)).trans hx490_0
       try go_wp2
       replace HO_4 := Aside0.mk (Kd.R_drew HO_4.out); replace HB := Aside0.mk (below_drew1 HB.out)
       obtain ⟨i029, hi029, _, hsz29, _⟩ := info_parts info3
       obtain ⟨hcut29, hA29, hC29⟩ := print_take_of (P := Try.prog) (Value.int .i64) 0 24 3 .i64 Try.underlying24 hi029 hsz29 (some ad490) c0 l0 x13_1 (Oa) (Oa) HC0.out
       have HR491 := Aside0.mk (Kd.C_of_reads (h1 := fun _ => rfl) (hA29 _ (Kd.reads_of_C HR0.out)))
       have HC491 := Aside0.mk hC29
       clear hA29 hC29 hi029 hsz29
       obtain ⟨i030, hi030, _, hsz30, _⟩ := info_parts info3
       obtain ⟨A30, hcut30, hA30, hC30⟩ := print_drop_of (P := Try.prog) (Value.int .i64) 0 24 3 .i64 Try.underlying24 hi030 hsz30 (some ad490) c0 l0 (ji10) (Oa) (Oa) HC0.out
       have HR495 := Aside0.mk (Kd.C_of_reads (h1 := fun _ => rfl) (hA30 _ (Kd.reads_of_C HR0.out)))
       have HC495 := Aside0.mk hC30
       clear hA30 hC30 hi030 hsz30
       refine start_ (n := 10) (S := fun w' => True) (ds := []) #[false, false, false, false, false, false, false, false, false, false] (by kernel_rfl) rfl rfl trivial (fun hHeld => ?_); refine with_tabW spec_NeedlessCoins.tab7 spec_NeedlessCoins.bits7 (fun HT_ HW_ => ?_)
       generalize wr.drew = w28 at HO_4 HB HR491 HR495 hHeld ⊢
       refine Pu 0 18 #[true, false, false, false, false, false, false, false, false, false] HT_.out ?_
       refine Pu 1 19 #[true, true, false, false, false, false, false, false, false, false] HT_.out ?_
       refine Pu 2 20 #[true, true, true, false, false, false, false, false, false, false] HT_.out ?_
       refine Pu 4 22 #[true, true, true, false, true, false, false, false, false, false] HT_.out ?_
       refine Pu 5 23 #[true, true, true, false, true, true, false, false, false, false] HT_.out ?_
       refine Pu 6 24 #[true, true, true, false, true, true, true, false, false, false] HT_.out ?_
       refine Pu 7 25 #[true, true, true, false, true, true, true, true, false, false] HT_.out ?_
       refine one_ (i := 3) (N := some 21) #[true, true, true, true, true, true, true, true, false, false] rfl rfl (one_of HT_.out (by kernel_rfl)) (by decide) (fun K hK => ?_)
       refine goes_ Try.func64 (by kernel_rfl) rfl #[.slice (some ad490) (l0.take (x13_1 : Int).toNat).length c0] (by rfl) rfl rfl (by (try simp only [List.map_toArray, List.map_cons, List.map_nil]); first | done | (rw [show (l0.take (x13_1 : Int).toNat).length = x13_1.toNat from (by rw [List.length_take]; have h_ : (x13_1 : Int) ≤ (l0.length : Int) := Oa; omega)] <;> rfl) | rfl | (simp only [List.length_drop, List.length_take]; rfl)) ?_
       with_reducible refine (spec_l1Own.calls _ _ (l0.take (x13_1 : Int).toNat) t492 _ ?side1 ?side2 A9.out).mono ?_
       (case side1 => repeat (first | exact (Kd.C_below HR491.out HB.out) | (with_reducible refine Kd.C_alloc ?_ _) | (with_reducible refine Kd.C_drewN ?_ _) | (with_reducible refine Kd.C_drew ?_)))
       (case side2 => exact HC491.out)
       rintro e w31 ⟨v493, rfl, ho0, hb⟩
       refine ⟨_, rfl, ?_⟩
       have HO494 := Aside0.mk (Kd.R_lower (Kd.R_new' ho0 (Kd.R_lt (Rm HO_4.out))) (below_size Ub)); replace HO_4 := Aside0.mk (Kd.R_elder' (Rm HO_4.out) (Kd.R_base ho0) hb); replace HB := Aside0.mk (below_step Ub hb); (try clear hb); (try clear hb2); (try clear hk); (try clear hi); (try clear ho0)
       refine hK.out _ _ trivial (fun hHeld => ?_)
       clear hK K
       refine norm_ (a' := ?_) ?_ ?_
       rotate_left
       · show Act.put _ (some 21) _ = _
         simp only [Act.put, List.setIfInBounds_toArray, List.set_cons_zero, List.set_cons_succ, i64_w, i32_w]
         rfl
       refine one_ (i := 8) (N := some 26) #[true, true, true, true, true, true, true, true, true, false] rfl rfl (one_of HT_.out (by kernel_rfl)) (by decide) (fun K hK => ?_)
       refine Kd.R_append_rows_step (Kd.int .i64) (w0 := w) w.heap.size (by rfl) (.tmp 21) (.tmp 25) 24 3 (.int .i64 0) 8 rfl Try.underlying24 info3 rfl (by decide) (by omega) v493 t492 (l0.drop ((ji10) : Int).toNat) _ _ _ (fun k_ => some k_ ≠ (u4 : Value).ownBlock) (fun _ => False) rfl rfl ?aO ?aR (fun _ _ h => h) (fun _ h => h.elim) ?aF ?aB ?aS ?aL ?_
       (case aR => first | (rw [← show (l0.drop ((ji10) : Int).toNat).length = (l0.length - (ji10).toNat) from List.length_drop]; repeat (first | exact (Kd.C_below HR495.out HB.out) | (with_reducible refine Kd.C_alloc ?_ _) | (with_reducible refine Kd.C_drewN ?_ _) | (with_reducible refine Kd.C_drew ?_))) | (repeat (first | exact (Kd.C_below HR495.out HB.out) | (with_reducible refine Kd.C_alloc ?_ _) | (with_reducible refine Kd.C_drewN ?_ _) | (with_reducible refine Kd.C_drew ?_))))
       (case aB => exact Ub)
       (case aF => exact (fun k_ hk => Kd.fresh' (Kd.R_lt (Rm HO_4.out)) k_ hk))
       (case aO => exact (by (with_reducible repeat (first | apply Kd.R_alloc | apply Kd.R_drewN | apply Kd.R_drew)); exact Kd.R_mono HO494.out (fun _ hk => hk.2)))
       (case aS => exact (below_size Ub))
       (case aL => have := LMc13.out; have hlx_ := (show (l0.drop ((ji10) : Int).toNat).length = (l0.length - (ji10).toNat) from List.length_drop); omega)
       intro v497 w32 ho hb hg hat
       rw [← Ny496.out] at ho
       have n0_ := Aside0.mk (Kd.R_after (ok := (fun _ => True)) (Rm HO_4.out) hg hat); have n1_ := Aside0.mk (hb); have n2_ := Aside0.mk (ho); clear HO_4 HB HO494; have HO_4 := n0_; have HB := n1_; have HO498 := n2_; clear n0_ n1_ n2_ ho hb hg hat
       refine hK.out _ _ trivial (fun hHeld => ?_)
       clear hK K
       refine norm_ (a' := ?_) ?_ ?_
       rotate_left
       · show Act.put _ (some 26) _ = _
         simp only [Act.put, List.setIfInBounds_toArray, List.set_cons_zero, List.set_cons_succ, i64_w, i32_w]
         rfl
       refine Pu 9 7 #[true, true, true, true, true, true, true, true, true, true] HT_.out ?_
       refine done_ (done_of HT_.out (by kernel_rfl)) ?_
       obtain ⟨Ao33, co33, eo33⟩ := Kd.R_slice HO498.out
       subst eo33
       try go_wp2_with (first | (refine Gl 29 #[.slice Ao33 y496.length co33, .int .i64 (rd l0 x13_1)] Try.func65 ?_; (with_reducible refine (spec_cnFewer.calls k1 _ _ y496 (rd l0 x13_1) t499 _ (Cm (Kd.R_reads' HO498.out).2.2) ((Kd.R_reads' HO498.out).2.1) A14.out).mono ?_); rintro e w34 ⟨v500, rfl, ho0, hb⟩; refine ⟨_, rfl, ?_⟩; have HO501 := Aside0.mk (Kd.R_lower (Kd.R_new' (Kd.R_new' ho0 (Kd.R_lt (Rm HO_4.out))) (Kd.R_lt (Rm HO498.out))) (below_size Ub)); replace HO_4 := Aside0.mk (Kd.R_elder' (Rm HO_4.out) (Kd.R_base ho0) hb); replace HO498 := Aside0.mk (Kd.R_elder' (Rm HO498.out) (Kd.R_base ho0) hb); replace HB := Aside0.mk (below_step Ub hb); clear hb ho0; obtain ⟨Ao35, co35, eo35⟩ := Kd.R_slice HO501.out; subst eo35; have p502 : 0 ≤ ((rd l0 x13_1) : Int) := Oa; have q502 : (rd l0 x13_1) < (t499.length : Int) := Oa; obtain ⟨ad502, e502, hx502_0⟩ := Kd.at_int (Kd.R_reads' HO501.out).2.2 (rd l0 x13_1) p502 q502; cases e502; replace p502 := eq_true p502; replace q502 := eq_true q502))
       go_roundg k1
       case measure => have := HK1.out; omega
       case rel => exact ⟨(x4_1), (ji10), (by first | rfl | (simp; done) | (simp only [← hji10] <;> (first | rfl | simp)) | (simp [*]; done)), H', ⟨by have := HK1.out; omega⟩, ⟨by (with_reducible repeat (first | apply Kd.R_alloc | apply Kd.R_drewN | apply Kd.R_drew)); exact Kd.R_mono HO_4.out (fun _ hk => trivial)⟩, ⟨Ub⟩⟩
     have c4b0 := decide_eq_false c4
     clear c4
     simp only [Option.some.injEq, Prod.mk.injEq] at H
     obtain ⟨rfl, rfl⟩ := H
     go_wp2
     go_ret2
     exact ⟨_, Re, Rm HO_4.out, Ub⟩
 simp only [Option.some.injEq, Prod.mk.injEq] at H
 obtain ⟨rfl, rfl⟩ := H
 go_enter Try.func20, Try.ntmps20
 go_wp2_with (first | (refine Gl 9 #[.slice A0 l0.length c0] Try.func60 ?_; (with_reducible refine (spec_cnGood.calls k _ _ l0 false _ (Cm HR0.out) HC0.out A2.out).mono ?_); rintro e w' ⟨rfl, ⟨nd, rfl⟩⟩; refine ⟨_, rfl, ?_⟩))
 go_ret2
 exact ⟨_, Re, Nl, Ub⟩

/-! ### laws_tHas: function 22 -/
def laws_tHas.l0 : Nat → Int → List Int → Int → Int → Option (Bool)
 | 0, _, _, _, _ => none
 | k + 1, x1, x7, x8, x9 => if x9 < x8 then (if 0 ≤ x9 then (if x9 < (x7.length : Int) then (if (rd x7 x9) = x1 then (some true) else (laws_tHas.l0 k x1 x7 x8 (wrap64 (x9 + 1)))) else (none)) else (none)) else (some false)
def laws_tHas.f (k : Nat) (l0 : List Int) (a1 : Int) : Option (Bool) := laws_tHas.l0 k a1 l0 (l0.length : Int) 0
theorem laws_tHas.calls (k : Nat) (A0 : Option Addr) (c0 : Nat) (l0 : List Int) (a1 : Int) (r : Bool) (w : World) (hr0 : Kd.C (Kd.int .i64) w A0 l0.length l0) (hc0 : l0.length ≤ c0) (h : laws_tHas.f k l0 a1 = some r) :
 Calls Try.prog 22 #[.slice A0 l0.length c0, .int .i64 a1] w fun e w' => e = .returned (.bool r) ∧ Drawn0 w w' := by
 have HR0 := Aside0.mk hr0
 have HC0 := Aside0.mk hc0
 clear hr0 hc0
 have H := h; unfold laws_tHas.f at H
 clear h
 have H' := Aside0.mk H
 clear H
 go_enter Try.func22, Try.ntmps22
 go_wp2
 go_loopg [9] k (fun kq v9 w' => ∃ (x9_1 : Int), v9 = .int .i64 x9_1 ∧ Aside0 (laws_tHas.l0 kq a1 l0 (l0.length : Int) x9_1 = some r) ∧ Aside0 (kq ≤ k) ∧ Drawn0 w w')
 case atStart => exact ⟨(0), Rs, H', ⟨Nat.le_refl _⟩, Dr⟩
 case round =>
  clear H'
  obtain ⟨x9_1, rfl, HA, HK1, ⟨m1, rfl⟩⟩ := hrel
  cases gk with
  | zero => exact absurd HA.out (by simp [laws_tHas.l0])
  | succ k1 =>
   have H := HA.out
   clear HA
   simp only [laws_tHas.l0] at H
   replace H := Ic H; rcases H with ⟨c3, H⟩ | ⟨c3, H⟩
   · have c3b0 := decide_eq_true c3
     clear c3
     replace H := Ip H; obtain ⟨c4, H⟩ := H
     have c4b0 := decide_eq_true c4
     clear c4
     replace H := Ip H; obtain ⟨c5, H⟩ := H
     have c5b0 := decide_eq_true c5
     clear c5
     replace H := Ic H; rcases H with ⟨c6, H⟩ | ⟨c6, H⟩
     · have c6b0 : ((rd l0 x9_1) == a1) = true := beq_iff_eq.mpr c6
       have c6b1 := bne_eq_false_iff_eq.mpr c6
       clear c6
       obtain rfl := Option.some.inj H
       obtain ⟨p506, q506, ad506, e506, hx506_0⟩ := Ai HR0.out x9_1
       cases e506
       go_wp2
       go_ret
       exact ⟨Rs, Dr⟩
     have c6b0 : ((rd l0 x9_1) == a1) = false := beq_eq_false_iff_ne.mpr c6
     have c6b1 := bne_iff_ne.mpr c6
     have H' := Aside0.mk H
     clear H
     obtain ⟨p506, q506, ad506, e506, hx506_0⟩ := Ai HR0.out x9_1
     cases e506
     go_wp2
     go_roundg k1
     case measure => have := HK1.out; omega
     case rel => exact ⟨(wrap64 (x9_1 + 1)), Rs, H', ⟨by have := HK1.out; omega⟩, Dr⟩
   have c3b0 := decide_eq_false c3
   clear c3
   obtain rfl := Option.some.inj H
   go_wp2
   go_ret
   exact ⟨Rs, Dr⟩

/-! ### laws_tRises: function 23 -/
def laws_tRises.l0 : Nat → List Int → Int → Option (Bool)
 | 0, _, _ => none
 | k + 1, x0, x3 => if x3 < (x0.length : Int) then (if 0 ≤ (wrap64 (x3 - 1)) then (if (wrap64 (x3 - 1)) < (x0.length : Int) then (if 0 ≤ x3 then (if (rd x0 (wrap64 (x3 - 1))) ≥ (rd x0 x3) then (some false) else (laws_tRises.l0 k x0 (wrap64 (x3 + 1)))) else (none)) else (none)) else (none)) else (some true)
def laws_tRises.f (k : Nat) (l0 : List Int) : Option (Bool) := laws_tRises.l0 k l0 1
theorem laws_tRises.calls (k : Nat) (A0 : Option Addr) (c0 : Nat) (l0 : List Int) (r : Bool) (w : World) (hr0 : Kd.C (Kd.int .i64) w A0 l0.length l0) (hc0 : l0.length ≤ c0) (h : laws_tRises.f k l0 = some r) :
 Calls Try.prog 23 #[.slice A0 l0.length c0] w fun e w' => e = .returned (.bool r) ∧ Drawn0 w w' := by
 have HR0 := Aside0.mk hr0
 have HC0 := Aside0.mk hc0
 clear hr0 hc0
 have H := h; unfold laws_tRises.f at H
 clear h
 have H' := Aside0.mk H
 clear H
 go_enter Try.func23, Try.ntmps23
 go_wp2
 repeat (go_quiet (fail); try go_wp2)
 go_loopg [3] k (fun kq v3 w' => ∃ (x3_1 : Int), v3 = .int .i64 x3_1 ∧ Aside0 (laws_tRises.l0 kq l0 x3_1 = some r) ∧ Aside0 (kq ≤ k) ∧ Drawn0 w w')
 case atStart => exact ⟨(1), Rs, H', ⟨Nat.le_refl _⟩, Dr⟩
 case round =>
  clear H'
  obtain ⟨x3_1, rfl, HA, HK1, ⟨m1, rfl⟩⟩ := hrel
  cases gk with
  | zero => exact absurd HA.out (by simp [laws_tRises.l0])
  | succ k1 =>
   have H := HA.out
   clear HA
   simp only [laws_tRises.l0] at H
   replace H := Ic H; rcases H with ⟨c2, H⟩ | ⟨c2, H⟩
   · have c2b0 := decide_eq_true c2
     clear c2
     obtain ⟨ji3, hji3⟩ : ∃ j_ : Int, (wrap64 (x3_1 - 1)) = j_ := ⟨_, rfl⟩
     replace H : (if 0 ≤ (ji3) then (if (ji3) < (l0.length : Int) then (if 0 ≤ x3_1 then (if (rd l0 (ji3)) ≥ (rd l0 x3_1) then (some false) else (laws_tRises.l0 k1 l0 (wrap64 (x3_1 + 1)))) else (none)) else (none)) else (none)) = some r := by first | (rw [hji3] at H; exact H) | (simp only [hji3] at H ⊢; exact H)
     have hji3w : (IntKind.i64.wrap (x3_1 - 1)) = ji3 := (i64_w _).trans hji3
     replace H := Ip H; obtain ⟨c4, H⟩ := H
     have c4b0 := decide_eq_true c4
     clear c4
     replace H := Ip H; obtain ⟨c5, H⟩ := H
     have c5b0 := decide_eq_true c5
     clear c5
     replace H := Ip H; obtain ⟨c6, H⟩ := H
     have c6b0 := decide_eq_true c6
     clear c6
     replace H := Ic H; rcases H with ⟨c7, H⟩ | ⟨c7, H⟩
     · have c7b0 : decide ((rd l0 x3_1) ≤ (rd l0 (ji3))) = true := decide_eq_true c7
       clear c7
       obtain rfl := Option.some.inj H
       obtain ⟨p507, q507, ad507, e507, hx507_0⟩ := Ai HR0.out (ji3)
       cases e507
       have p508 : 0 ≤ (x3_1 : Int) := Oa
       have q508 : x3_1 < (l0.length : Int) := Oa
       obtain ⟨ad508, e508, hx508_0⟩ := Kd.at_int HR0.out x3_1 p508 q508
       obtain rfl : ad507 = ad508 := (by injection e508)
       replace p508 := eq_true p508
       replace q508 := eq_true q508
       go_wp2
       repeat (go_quiet (fail); try go_wp2)
       go_ret
       exact ⟨by first | rfl | (simp; done) | (simp only [← hji3] <;> (first | rfl | simp)) | (simp [*]; done), Dr⟩
     have c7b0 : decide ((rd l0 x3_1) ≤ (rd l0 (ji3))) = false := decide_eq_false c7
     clear c7
     have H' := Aside0.mk H
     clear H
     obtain ⟨p507, q507, ad507, e507, hx507_0⟩ := Ai HR0.out (ji3)
     cases e507
     have p508 : 0 ≤ (x3_1 : Int) := Oa
     have q508 : x3_1 < (l0.length : Int) := Oa
     obtain ⟨ad508, e508, hx508_0⟩ := Kd.at_int HR0.out x3_1 p508 q508
     obtain rfl : ad507 = ad508 := (by injection e508)
     replace p508 := eq_true p508
     replace q508 := eq_true q508
     go_wp2
     repeat (go_quiet (fail); try go_wp2)
     go_roundg k1
     case measure => have := HK1.out; omega
     case rel => exact ⟨(wrap64 (x3_1 + 1)), Rs, H', ⟨by have := HK1.out; omega⟩, Dr⟩
   have c2b0 := decide_eq_false c2
   clear c2
   obtain rfl := Option.some.inj H
   go_wp2
   repeat (go_quiet (fail); try go_wp2)
   go_ret
   exact ⟨Rs, Dr⟩

end Go.Proofs.Ytkbllhlmcfjcdaa.PFnChangeLeft
