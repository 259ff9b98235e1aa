-- printed by wip/xp
import Derived.Test.YtgeoihhibglhgaaPFnPiecesHiddenx0
import Derived.Test.YtgeoihhibglhgaaPFnPiecesHiddenx12
import Derived.Test.YtgeoihhibglhgaaPFnPiecesHiddenx13
import Derived.Test.YtgeoihhibglhgaaPFnPiecesHiddenx14
set_option maxHeartbeats 8000000
set_option maxRecDepth 100000
namespace Go.Proofs.Ytgeoihhibglhgaa.PFnPiecesHidden
open Go.RowKit Go.Proofs.YtgeoihhibglhgaaW.PrintWords Go.Proofs.YtgeoihhibglhgaaW.PrintLast Go.Proofs.YtgeoihhibglhgaaW.PrintMore Go.Proofs.Ytgeoihhibglhgaa.Xmv
attribute [local go_sem] max2_int min2_int max_two min_two max_three min_three max_four min_four
set_option linter.unusedVariables false
set_option linter.unusedSimpArgs false

/-! ### spec_pzWithout: function 228 -/
def spec_pzWithout.f (l0 : List (S58)) (a1 : Int) : Option ((List (S58))) := (some (([] : List (S58)) : List (S58))).bind fun y474 => (if 0 ≤ a1 then (if a1 ≤ (l0.length : Int) then ((some (l0.take (a1 : Int).toNat : List (S58))).bind fun y477 => (if y474.length + y477.length < 5864062014805 then ((some (y474 ++ y477 : List (S58))).bind fun y481 => (if 0 ≤ (wrap64 (a1 + 1)) then (if (wrap64 (a1 + 1)) ≤ (l0.length : Int) then ((some (l0.drop ((wrap64 (a1 + 1)) : Int).toNat : List (S58))).bind fun y484 => (if y481.length + y484.length < 5864062014805 then (some (y481 ++ y484)) else (none))) else (none)) else (none))) else (none))) else (none)) else (none))
def spec_pzWithout.T1 : Bool × List (List Nat × List Nat) := (true, [([], []), ([], []), ([], []), ([1, 2], [1, 2]), ([0, 3], [0, 3]), ([], []), ([], []), ([6], [6]), ([5, 7], [5, 7]), ([4, 8, 4], [4, 8]), ([9, 9, 0, 1, 2, 3, 4, 5, 6, 7, 8, 9], [9])])
def spec_pzWithout.B1 : List Nat := [0, 0, 0, 6, 15, 0, 0, 64, 224, 511, 1023]
theorem spec_pzWithout.tab1 : rtab .any (opsOf Try.f228 1) = spec_pzWithout.T1 := by kernel_rfl
theorem spec_pzWithout.bits1 : waitsOk spec_pzWithout.T1.2 spec_pzWithout.B1 = true := by kernel_rfl
theorem spec_pzWithout.calls (A0 : Option Addr) (c0 : Nat) (l0 : List (S58)) (a1 : Int) (r : List (S58)) (w : World) (hr0 : Kd.C k58 w A0 l0.length l0) (hc0 : l0.length ≤ c0) (h : spec_pzWithout.f l0 a1 = some r) :
 Calls Try.prog 228 #[.slice A0 l0.length c0, .int .i64 a1] w fun e w' => ∃ v0_ : Value, e = .returned (v0_) ∧ Kd.R k58 58 w' w.heap.size (fun _ => True) v0_ r ∧ Below w.heap.size w w' := by
 have HR0 := jA hr0
 have HC0 := jA hc0
 clear hr0 hc0
 have HB := jA (jU w.heap.size w)
 have H := h; unfold spec_pzWithout.f at H
 clear h
 obtain ⟨y474, hy474⟩ : ∃ y_ : List (S58), y_ = (([] : List (S58))) := ⟨_, rfl⟩
 replace H : (if 0 ≤ a1 then (if a1 ≤ (l0.length : Int) then ((some (l0.take (a1 : Int).toNat : List (S58))).bind fun y477 => (if y474.length + y477.length < 5864062014805 then ((some (y474 ++ y477 : List (S58))).bind fun y481 => (if 0 ≤ (wrap64 (a1 + 1)) then (if (wrap64 (a1 + 1)) ≤ (l0.length : Int) then ((some (l0.drop ((wrap64 (a1 + 1)) : Int).toNat : List (S58))).bind fun y484 => (if y481.length + y484.length < 5864062014805 then (some (y481 ++ y484)) else (none))) else (none)) else (none))) else (none))) else (none)) else (none)) = some r := by first | (rw [hy474]; with_reducible exact H) | (have H2_ := (Option.bind_some _ _).symm.trans H; rw [hy474]; with_reducible exact H2_) | (have H2_ := (Option.bind_some _ _).symm.trans H; with_reducible exact H2_) | with_reducible exact H | (rw [hy474]; exact H) | exact H
 have Ny474 := jA hy474
 clear hy474
 replace H := Ic H; rcases H with ⟨c3, H⟩ | ⟨c3, H⟩
 · have c3b0 := eq_true c3
   have c3b1 := jK c3
   clear c3
   replace H := Ip H; obtain ⟨c4, H⟩ := H
   have c4b0 := eq_true c4
   have c4b1 := jK c4
   clear c4
   obtain ⟨y477, hy477⟩ : ∃ y_ : List (S58), y_ = (l0.take (a1 : Int).toNat) := ⟨_, rfl⟩
   replace H : (if y474.length + y477.length < 5864062014805 then ((some (y474 ++ y477 : List (S58))).bind fun y481 => (if 0 ≤ (wrap64 (a1 + 1)) then (if (wrap64 (a1 + 1)) ≤ (l0.length : Int) then ((some (l0.drop ((wrap64 (a1 + 1)) : Int).toNat : List (S58))).bind fun y484 => (if y481.length + y484.length < 5864062014805 then (some (y481 ++ y484)) else (none))) else (none)) else (none))) else (none)) = some r := by first | (rw [hy477]; with_reducible exact H) | (have H2_ := (Option.bind_some _ _).symm.trans H; rw [hy477]; with_reducible exact H2_) | (have H2_ := (Option.bind_some _ _).symm.trans H; with_reducible exact H2_) | with_reducible exact H | (rw [hy477]; exact H) | exact H
   have Ny477 := jA hy477
   clear hy477
   replace H := Ip H; obtain ⟨c5, H⟩ := H
   have LMc5 := jA c5
   clear c5
   obtain ⟨y481, hy481⟩ : ∃ y_ : List (S58), y_ = (y474 ++ y477) := ⟨_, rfl⟩
   replace H : (if 0 ≤ (wrap64 (a1 + 1)) then (if (wrap64 (a1 + 1)) ≤ (l0.length : Int) then ((some (l0.drop ((wrap64 (a1 + 1)) : Int).toNat : List (S58))).bind fun y484 => (if y481.length + y484.length < 5864062014805 then (some (y481 ++ y484)) else (none))) else (none)) else (none)) = some r := by first | (rw [hy481]; with_reducible exact H) | (have H2_ := (Option.bind_some _ _).symm.trans H; rw [hy481]; with_reducible exact H2_) | (have H2_ := (Option.bind_some _ _).symm.trans H; with_reducible exact H2_) | with_reducible exact H | (rw [hy481]; exact H) | exact H
   have Ny481 := jA hy481
   clear hy481
   obtain ⟨ji6, hji6⟩ : ∃ j_ : Int, (wrap64 (a1 + 1)) = j_ := ⟨_, rfl⟩
   replace H : (if 0 ≤ (ji6) then (if (ji6) ≤ (l0.length : Int) then ((some (l0.drop ((ji6) : Int).toNat : List (S58))).bind fun y484 => (if y481.length + y484.length < 5864062014805 then (some (y481 ++ y484)) else (none))) else (none)) else (none)) = some r := by first | (rw [hji6] at H; exact H) | (simp only [hji6] at H ⊢; exact H)
   have hji6w : (IntKind.i64.wrap (a1 + 1)) = ji6 := (i64_w _).trans hji6
   replace H := Ip H; obtain ⟨c7, H⟩ := H
   have c7b0 := eq_true c7
   have c7b1 := jK c7
   clear c7
   replace H := Ip H; obtain ⟨c8, H⟩ := H
   have c8b0 := eq_true c8
   have c8b1 := jK c8
   clear c8
   obtain ⟨y484, hy484⟩ : ∃ y_ : List (S58), y_ = (l0.drop ((ji6) : Int).toNat) := ⟨_, rfl⟩
   replace H : (if y481.length + y484.length < 5864062014805 then (some (y481 ++ y484)) else (none)) = some r := by first | (rw [hy484]; with_reducible exact H) | (have H2_ := (Option.bind_some _ _).symm.trans H; rw [hy484]; with_reducible exact H2_) | (have H2_ := (Option.bind_some _ _).symm.trans H; with_reducible exact H2_) | with_reducible exact H | (rw [hy484]; exact H) | exact H
   have Ny484 := jA hy484
   clear hy484
   replace H := Ip H; obtain ⟨c9, H⟩ := H
   have LMc9 := jA c9
   clear c9
   obtain ⟨y488, hy488⟩ : ∃ y_ : List (S58), y_ = (y481 ++ y484) := ⟨_, rfl⟩
   replace H : (some y488) = some r := by first | (rw [hy488]; with_reducible exact H) | (have H2_ := (Option.bind_some _ _).symm.trans H; rw [hy488]; with_reducible exact H2_) | (have H2_ := (Option.bind_some _ _).symm.trans H; with_reducible exact H2_) | with_reducible exact H | (rw [hy488]; exact H) | exact H
   have Ny488 := jA hy488
   clear hy488
   obtain rfl := jM H
   go_enter Try.func228, Try.ntmps228
   try go_wp2
   replace HB := jA (jQ HB.out)
   have q11 : (a1 : Int) ≤ ((l0.length : Int) : Int) := Oa
   obtain ⟨i011, hi011, _, hsz11, _⟩ := info_parts info58
   have hroom11 : l0.length ≤ c0 := HC0.out
   have hC11 : Kd.C k58 _ A0 l0.length l0 := HR0.out
   have hcut11 := cut_to (P := Try.prog) 50 58 .i64 Try.underlying50 hi011 A0 l0.length c0 a1 (Oa) q11 hroom11
   have hr11 := Kd.C_take (m := (a1 : Int).toNat) hC11 (by omega)
   have hy11 : y477.length = (a1 : Int).toNat := (by rw [Ny477.out, List.length_take]; omega)
   rw [← Ny477.out] at hr11
   rw [← hy11] at hcut11
   have HR480 := jA hr11
   have HC480 := jA (show y477.length ≤ c0 from by omega)
   clear hr11 hC11 hroom11 hi011 hsz11
   have KY11 := jA hy11
   clear hy11
   replace q11 := eq_true q11
   have q12 : ((ji6) : Int) ≤ ((l0.length : Int) : Int) := Oa
   obtain ⟨i012, hi012, _, hsz12, _⟩ := info_parts info58
   have hroom12 : l0.length ≤ c0 := HC0.out
   have hC12 : Kd.C k58 _ A0 l0.length l0 := HR0.out
   have q012 : (0 : Int) ≤ ((ji6) : Int) := Oa
   have hcut12 := cut_from (P := Try.prog) 50 58 .i64 Try.underlying50 hi012 3 hsz12 A0 l0.length c0 (ji6) q012 q12
   have hr12 := Kd.C_drop (m := ((ji6) : Int).toNat) (c := c0) hC12 (by omega) hroom12
   obtain ⟨A12, hA12⟩ : ∃ A1, A1 = (if c0 = ((ji6) : Int).toNat then A0 else (A0 : Option Addr).map (·.add (((ji6) : Int).toNat * 3))) := ⟨_, rfl⟩
   obtain ⟨c12, hc12⟩ : ∃ c1, c1 = c0 - ((ji6) : Int).toNat := ⟨_, rfl⟩
   have hy12 : y484.length = l0.length - ((ji6) : Int).toNat := (by rw [Ny484.out, List.length_drop] <;> omega)
   rw [show (l0).drop ((ji6) : Int).toNat = y484 from Ny484.out.symm] at hr12
   replace hr12 : Kd.C k58 _ A12 y484.length y484 := (by rw [hA12]; exact hr12)
   rw [← hy12, ← hA12, ← hc12] at hcut12
   have HR487 := jA hr12
   have HC487 := jA (show y484.length ≤ c12 from by rw [hy12, hc12]; exact Nat.sub_le_sub_right hroom12 _)
   clear hr12 hC12 hroom12 hi012 hsz12 hc12
   have KY12 := jA hy12
   have KA12 := jA hA12
   clear hy12 hA12
   replace q12 := eq_true q12
   refine start_ (n := 11) (S := fun w' => True) (ds := []) #[false, false, false, false, false, false, false, false, false, false, false] (by kernel_rfl) rfl rfl trivial (fun hHeld => ?_); refine with_tabW spec_pzWithout.tab1 spec_pzWithout.bits1 (fun HT_ HW_ => ?_)
   generalize w.drew = w10 at HB HR480 HR487 hHeld ⊢
   refine Pu 1 6 #[false, true, false, false, false, false, false, false, false, false, false] HT_.out ?_
   refine Pu 2 7 #[false, true, true, false, false, false, false, false, false, false, false] HT_.out ?_
   refine Pu 3 8 #[false, true, true, true, false, false, false, false, false, false, false] HT_.out ?_
   refine Pu 5 10 #[false, true, true, true, false, true, false, false, false, false, false] HT_.out ?_
   refine Pu 6 11 #[false, true, true, true, false, true, true, false, false, false, false] HT_.out ?_
   refine Pu 7 12 #[false, true, true, true, false, true, true, true, false, false, false] HT_.out ?_
   refine Pu 8 13 #[false, true, true, true, false, true, true, true, true, false, false] HT_.out ?_
   refine one_ (i := 0) (N := some 5) #[true, true, true, true, false, true, true, true, true, false, false] rfl rfl (one_of HT_.out (by kernel_rfl)) (by decide) (fun K hK => ?_)
   refine Kd.R_lit_step k58 _ 58 ?hg (N := 5) ?hd (xs := ([] : List (S58))) (inner := []) (ok := fun _ => True) (okp := fun _ => True) ?hr ?hp (fun _ hk => hk) trivial (jU _ _) (jX _) (by simp) ?_; (case hd => rfl); (case hg => rfl); (case hr => first | (go_simp; done) | (go_simp; rfl)); (case hp => exact (Reps.none _ _))
   intro v475 w13 ho14 hb hg_ hnew_
   clear hg_ hnew_
   (first | rw [← Ny474.out] at ho14 | (simp only [Int.reduceToNat] at ho14; rw [← Ny474.out] at ho14))
   have n0_ := jA (jf ho14 (jL Ub)); have n1_ := jA (jB Ub hb); clear HB; have HO476 := n0_; have HB := n1_; clear n0_ n1_ hb ho14
   refine hK.out _ _ trivial (fun hHeld => ?_)
   clear hK K
   refine norm_ (a' := ?_) ?_ ?_
   rotate_left
   · show Act.put _ (some 5) _ = _
     simp only [Act.put, List.setIfInBounds_toArray, List.set_cons_zero, List.set_cons_succ, i64_w, i32_w]
     rfl
   refine one_ (i := 4) (N := some 9) #[true, true, true, true, true, true, true, true, true, false, false] rfl rfl (one_of HT_.out (by kernel_rfl)) (by decide) (fun K hK => ?_)
   refine Kd.R_append_rows_step k58 (w0 := w) w.heap.size (by rfl) (.tmp 5) (.tmp 8) 50 58 (.agg #[(.int .i64 0), (.int .i64 0), (.int .i64 0)]) 24 rfl Try.underlying50 info58 rfl (by decide) (by omega) v475 y474 y477 _ _ _ (fun _ => True) (fun _ => False) rfl rfl ?aO ?aR (fun _ _ h => h) (fun _ h => h.elim) ?aF ?aB ?aS ?aL ?_
   (case aR => repeat (first | exact (jY HR480.out HB.out) | (with_reducible refine Xc ?_)))
   (case aB => exact Ub)
   (case aF => exact (fun _ _ => trivial))
   (case aO => exact (Rm HO476.out))
   (case aS => exact (jL Ub))
   (case aL => have := LMc5.out; omega)
   intro v482 w15 ho hb hg hat
   rw [← Ny481.out] at ho
   have n0_ := jA (hb); have n1_ := jA (ho); clear HB HO476; have HB := n0_; have HO483 := n1_; clear n0_ n1_ ho hb hg hat
   refine hK.out _ _ trivial (fun hHeld => ?_)
   clear hK K
   refine norm_ (a' := ?_) ?_ ?_
   rotate_left
   · show Act.put _ (some 9) _ = _
     simp only [Act.put, List.setIfInBounds_toArray, List.set_cons_zero, List.set_cons_succ, i64_w, i32_w]
     rfl
   refine one_ (i := 9) (N := some 14) #[true, true, true, true, true, true, true, true, true, true, false] rfl rfl (one_of HT_.out (by kernel_rfl)) (by decide) (fun K hK => ?_)
   refine Kd.R_append_rows_step k58 (w0 := w) w.heap.size (by rfl) (.tmp 9) (.tmp 13) 50 58 (.agg #[(.int .i64 0), (.int .i64 0), (.int .i64 0)]) 24 rfl Try.underlying50 info58 rfl (by decide) (by omega) v482 y481 y484 _ _ _ (fun _ => True) (fun _ => False) rfl rfl ?aO ?aR (fun _ _ h => h) (fun _ h => h.elim) ?aF ?aB ?aS ?aL ?_
   (case aR => repeat (first | exact (jY HR487.out HB.out) | (with_reducible refine Xc ?_)))
   (case aB => exact Ub)
   (case aF => exact (fun _ _ => trivial))
   (case aO => exact (Rm HO483.out))
   (case aS => exact (jL Ub))
   (case aL => have := LMc9.out; omega)
   intro v489 w16 ho hb hg hat
   rw [← Ny488.out] at ho
   have n0_ := jA (hb); have n1_ := jA (ho); clear HB HO483; have HB := n0_; have HO490 := n1_; clear n0_ n1_ ho hb hg hat
   refine hK.out _ _ trivial (fun hHeld => ?_)
   clear hK K
   refine norm_ (a' := ?_) ?_ ?_
   rotate_left
   · show Act.put _ (some 14) _ = _
     simp only [Act.put, List.setIfInBounds_toArray, List.set_cons_zero, List.set_cons_succ, i64_w, i32_w]
     rfl
   refine Pu 10 4 #[true, true, true, true, true, true, true, true, true, true, true] HT_.out ?_
   refine done_ (done_of HT_.out (by kernel_rfl)) ?_
   try go_wp2
   go_ret
   exact ⟨_, by first | rfl | (simp [errW_none, errW_some] <;> rfl) | (simp only [← hji6]; first | rfl | (simp [errW_none, errW_some] <;> rfl)) | (simp [*, errW_none, errW_some] <;> rfl), Rm HO490.out, Ub⟩
 exact absurd H (by simp)

/-! ### spec_HarderPuzzle: function 87 -/
mutual
def spec_HarderPuzzle.j0 : Nat → Bool → List (S58) → Option ((List (S58)) × Bool)
 | 0, _, _ => none
 | k + 1, x15, x492000 => if x15 = true then (some (([] : List (S58)), false)) else ((some (([] : List (S58)) : List (S58))).bind fun y495 => (if y495.length + x492000.length < 5864062014805 then (spec_HarderPuzzle.l0 k (y495 ++ x492000) 0) else (none)))
def spec_HarderPuzzle.l0 : Nat → List (S58) → Int → Option ((List (S58)) × Bool)
 | 0, _, _ => none
 | k + 1, x4, x5 => if x5 < (x4.length : Int) then ((spec_pzWithout.f x4 x5).bind fun t501 => ((spec_pzSolved.f k t501).bind fun t504 => (if t504 = true then (spec_HarderPuzzle.l0 k t501 x5) else (spec_HarderPuzzle.l0 k x4 (wrap64 (x5 + 1)))))) else (some (x4, true))
end
def spec_HarderPuzzle.f (k : Nat) (l0_0 : List (S58)) : Option ((List (S58)) × Bool) := (spec_pzGood.f k l0_0).bind fun t493 => (if t493 = true then ((spec_pzSolved.f k l0_0).bind fun t494 => (spec_HarderPuzzle.j0 k (!t494) l0_0)) else (spec_HarderPuzzle.j0 k true l0_0))
theorem spec_HarderPuzzle.calls (k : Nat) (A0_0 : Option Addr) (c0_0 : Nat) (l0_0 : List (S58)) (r1 : List (S58)) (r2 : Bool) (w : World) (hr0_0 : Kd.C k58 w A0_0 l0_0.length l0_0) (hc0_0 : l0_0.length ≤ c0_0) (h : spec_HarderPuzzle.f k l0_0 = some (r1, r2)) :
 Calls Try.prog 87 #[.agg #[.slice A0_0 l0_0.length c0_0]] w fun e w' => ∃ v0_ : Value, e = .returned (.tuple #[.agg #[v0_], .bool r2]) ∧ Kd.R k58 58 w' w.heap.size (fun _ => True) v0_ r1 ∧ Below w.heap.size w w' := by
 have hu52 := Try.underlying52
 have HR0_0 := jA hr0_0
 have HC0_0 := jA hc0_0
 clear hr0_0 hc0_0
 have HB := jA (jU w.heap.size w)
 have H := h; unfold spec_HarderPuzzle.f at H
 clear h
 have HC2 := jA H
 clear H
 go_enter Try.func87, Try.ntmps87
 go_upto_region 1 with (first | ((with_reducible refine gate_dst (N := 1) rfl ?_); refine box_event ?hg (N := 1) ?hd (cs := #[.slice A0_0 l0_0.length c0_0]) (t := 52) ?hr ?_; (case hd => rfl); (case hg => rfl); (case hr => first | (go_simp; done) | (go_simp; rfl)); intro gb491 hg w3 hbox hb; have BK491 := jA (hbox); have GW491 := jA ((by rw [hg]; exact (jL Ub) : w.heap.size ≤ gb491)); have GE491 := jA ((by rw [hg]; exact (jL Ub) : w.heap.size ≤ gb491)); replace HB := jA (jB Ub hb); clear hb hbox hg) | ((with_reducible refine gate_dst (N := 2) rfl ?_); refine box_event ?hg (N := 2) ?hd (cs := #[.slice none 0 0]) (t := 52) ?hr ?_; (case hd => rfl); (case hg => rfl); (case hr => first | (go_simp; done) | (go_simp; rfl)); intro gb492 hg w4 hbox hb; have BK492 := jA (hbox); have GW492 := jA ((by rw [hg]; exact (jL Ub) : w.heap.size ≤ gb492)); have GE492 := jA ((by rw [hg]; exact (jL Ub) : w.heap.size ≤ gb492)); replace HB := jA (jB Ub hb); have NB491_492 := jA ((by rw [hg]; exact jZ (blk_lt (g := gb491) (o := .cells #[.slice A0_0 l0_0.length c0_0] 52 (0, 0)) (Bm BK491.out)) : gb491 ≠ gb492)); have NB492_491 := jA ((by rw [hg]; exact ja (blk_lt (g := gb491) (o := .cells #[.slice A0_0 l0_0.length c0_0] 52 (0, 0)) (Bm BK491.out)) : gb492 ≠ gb491)); replace BK491 := jA (jN (g := gb491) (o := .cells #[.slice A0_0 l0_0.length c0_0] 52 (0, 0)) (Bm BK491.out) hb); clear hb hbox hg))
 (try simp only [Act.put, List.setIfInBounds_toArray, List.set_cons_zero, List.set_cons_succ])
 go_cut [15] (fun v15 wc => ∃ (kq : Nat) (x15_1 : Bool), v15 = .bool x15_1 ∧ Aside0 (spec_HarderPuzzle.j0 kq x15_1 l0_0 = some (r1, r2)) ∧ Aside0 (kq ≤ k) ∧ Aside0 (wc.heap[gb491]? = some (.cells #[(.slice A0_0 l0_0.length c0_0)] 52 (0, 0))) ∧ Aside0 (wc.heap[gb492]? = some (.cells #[(.slice none 0 0)] 52 (0, 0))) ∧ Aside0 (Below w.heap.size w wc))
 case first =>
  have H := HC2.out
  clear HC2
  replace H := jD H
  obtain ⟨t493, A50, H⟩ := H
  have A5 := jA A50
  clear A50
  replace H := Iw H; rcases H with ⟨rfl, H⟩ | ⟨rfl, H⟩
  · replace H := jD H
    obtain ⟨t494, A70, H⟩ := H
    have A7 := jA A70
    clear A70
    have H' := jA H
    clear H
    have hnb8 := NB491_492.out
    have hnc8 := NB492_491.out
    have hcz9_0 : w4.cell? ⟨gb491, 0, none⟩ = some (.slice A0_0 l0_0.length c0_0) := (jE BK491.out 0).trans rfl
    have hfz9_0 := jF BK491.out 0
    go_wp2_with (first | (refine Gl 8 #[.agg #[.slice A0_0 l0_0.length c0_0]] Try.func226 ?_; (with_reducible refine (spec_pzGood.calls k _ _ l0_0 true _ (Cm (jY HR0_0.out HB.out)) HC0_0.out A5.out).mono ?_); rintro e w10 ⟨rfl, hb⟩; refine ⟨_, rfl, ?_⟩; replace BK491 := jA (jN (g := gb491) (o := .cells #[.slice A0_0 l0_0.length c0_0] 52 (0, 0)) (Bm BK491.out) hb); replace BK492 := jA (jN (g := gb492) (o := .cells #[.slice none 0 0] 52 (0, 0)) (Bm BK492.out) hb); replace HB := jA (jB Ub hb); clear hb; have hcz11_0 : w10.cell? ⟨gb491, 0, none⟩ = some (.slice A0_0 l0_0.length c0_0) := (jE BK491.out 0).trans rfl; have hfz11_0 := jF BK491.out 0) | (go_at_call 227; (with_reducible refine (spec_pzSolved.calls k _ _ l0_0 t494 _ (Cm (jY HR0_0.out HB.out)) HC0_0.out A7.out).mono ?_); rintro e w12 ⟨rfl, hb⟩; replace BK491 := jA (jN (g := gb491) (o := .cells #[.slice A0_0 l0_0.length c0_0] 52 (0, 0)) (Bm BK491.out) hb); replace BK492 := jA (jN (g := gb492) (o := .cells #[.slice none 0 0] 52 (0, 0)) (Bm BK492.out) hb); replace HB := jA (jB Ub hb); clear hb))
    go_meet
    case rel => exact ⟨_, (!t494), Rs, H', ⟨by first | omega | exact jX _⟩, ⟨Bm BK491.out⟩, ⟨Bm BK492.out⟩, ⟨Ub⟩⟩
  have H' := jA H
  clear H
  have hnb13 := NB491_492.out
  have hnc13 := NB492_491.out
  have hcz14_0 : w4.cell? ⟨gb491, 0, none⟩ = some (.slice A0_0 l0_0.length c0_0) := (jE BK491.out 0).trans rfl
  have hfz14_0 := jF BK491.out 0
  go_wp2_with (first | (refine Gl 8 #[.agg #[.slice A0_0 l0_0.length c0_0]] Try.func226 ?_; (with_reducible refine (spec_pzGood.calls k _ _ l0_0 false _ (Cm (jY HR0_0.out HB.out)) HC0_0.out A5.out).mono ?_); rintro e w15 ⟨rfl, hb⟩; refine ⟨_, rfl, ?_⟩; replace BK491 := jA (jN (g := gb491) (o := .cells #[.slice A0_0 l0_0.length c0_0] 52 (0, 0)) (Bm BK491.out) hb); replace BK492 := jA (jN (g := gb492) (o := .cells #[.slice none 0 0] 52 (0, 0)) (Bm BK492.out) hb); replace HB := jA (jB Ub hb); clear hb))
  go_meet
  case rel => exact ⟨_, (true), Rs, H', ⟨by first | omega | exact jX _⟩, ⟨Bm BK491.out⟩, ⟨Bm BK492.out⟩, ⟨Ub⟩⟩
 case rest =>
  clear HC2
  try clear hcz11_0
  try clear hcz14_0
  try clear hcz9_0
  try clear hfz11_0
  try clear hfz14_0
  try clear hfz9_0
  obtain ⟨kq, x15_1, rfl, HA, HJ1, BK491, BK492, HB⟩ := hcut
  cases kq with
  | zero => exact absurd HA.out (by simp [spec_HarderPuzzle.j0])
  | succ kj1 =>
   have H := HA.out
   clear HA
   simp only [spec_HarderPuzzle.j0] at H
   by_cases c16 : x15_1 = true
   · subst c16
     have H1 : (some (([] : List (S58)), false)) = some (r1, r2) := by rw [if_pos rfl] at H; exact H
     clear H
     have H := H1
     clear H1
     simp only [Option.some.injEq, Prod.mk.injEq] at H
     obtain ⟨rfl, rfl⟩ := H
     have hnb17 := NB492_491.out
     have hnc17 := NB491_492.out
     have hcz18_0 : wc.cell? ⟨gb492, 0, none⟩ = some (.slice none 0 0) := (jE BK492.out 0).trans rfl
     have hfz18_0 := jF BK492.out 0
     go_wp2
     refine bodyPost_ret (results_ct rfl _ _ gb492 52 #[.slice none 0 0] (0, 0) _ rfl (by (with_reducible repeat refine Xg ?_); refine jp (cs := #[.slice none 0 0]) ?_ 0 _ rfl; (with_reducible repeat refine Xg ?_); exact BK492.out) Try.underlying52 rfl (by kernel_rfl)) rfl ?_
     exact ⟨_, Re, Nl, Ub⟩
   replace c16 := Bool.eq_false_iff.mpr c16
   subst c16
   have H1 : ((some (([] : List (S58)) : List (S58))).bind fun y495 => (if y495.length + l0_0.length < 5864062014805 then (spec_HarderPuzzle.l0 kj1 (y495 ++ l0_0) 0) else (none))) = some (r1, r2) := by rw [if_neg (show ¬ (false = true) by decide)] at H; exact H
   clear H
   have H := H1
   clear H1
   obtain ⟨y495, hy495⟩ : ∃ y_ : List (S58), y_ = (([] : List (S58))) := ⟨_, rfl⟩
   replace H : (if y495.length + l0_0.length < 5864062014805 then (spec_HarderPuzzle.l0 kj1 (y495 ++ l0_0) 0) else (none)) = some (r1, r2) := by first | (rw [hy495]; with_reducible exact H) | (have H2_ := (Option.bind_some _ _).symm.trans H; rw [hy495]; with_reducible exact H2_) | (have H2_ := (Option.bind_some _ _).symm.trans H; with_reducible exact H2_) | with_reducible exact H | (rw [hy495]; exact H) | exact H
   have Ny495 := jA hy495
   clear hy495
   replace H := Ic H; rcases H with ⟨c19, H⟩ | ⟨c19, H⟩
   · have LMc19 := jA c19
     clear c19
     obtain ⟨y498, hy498⟩ : ∃ y_ : List (S58), y_ = (y495 ++ l0_0) := ⟨_, rfl⟩
     replace H : (spec_HarderPuzzle.l0 kj1 y498 0) = some (r1, r2) := by first | (rw [hy498]; with_reducible exact H) | (have H2_ := (Option.bind_some _ _).symm.trans H; rw [hy498]; with_reducible exact H2_) | (have H2_ := (Option.bind_some _ _).symm.trans H; with_reducible exact H2_) | with_reducible exact H | (rw [hy498]; exact H) | exact H
     have Ny498 := jA hy498
     clear hy498
     have H' := jA H
     clear H
     go_wp2_with (first | ((with_reducible refine gate_dst (N := 17) rfl ?_); refine Kd.R_lit k58 _ 58 ?hg (N := 17) ?hd (xs := ([] : List (S58))) (inner := []) (ok := fun _ => True) (okp := fun _ => True) ?hr ?hp (fun _ hk => hk) trivial (jU _ _) (jX _) (by simp) ?_; (case hd => rfl); (case hg => rfl); (case hr => first | (go_simp; done) | (go_simp; rfl)); (case hp => exact (Reps.none _ _)); intro v496 w20 ho21 hb hg_ hnew_; clear hg_ hnew_; (first | rw [← Ny495.out] at ho21 | (simp only [Int.reduceToNat] at ho21; rw [← Ny495.out] at ho21)); have HO497 := jA (jf ho21 (jL Ub)); replace BK491 := jA (jN (g := gb491) (o := .cells #[.slice A0_0 l0_0.length c0_0] 52 (0, 0)) (Bm BK491.out) hb); replace BK492 := jA (jN (g := gb492) (o := .cells #[.slice none 0 0] 52 (0, 0)) (Bm BK492.out) hb); replace HB := jA (jB Ub hb); clear hb ho21; have hnb22 := NB491_492.out; have hnc22 := NB492_491.out; have hcz23_0 : w20.cell? ⟨gb491, 0, none⟩ = some (.slice A0_0 l0_0.length c0_0) := (jE BK491.out 0).trans rfl; have hfz23_0 := jF BK491.out 0) | ((with_reducible refine gate_builtin (b := .append) (xs := #[.tmp 17, .tmp 19]) rfl ?_); at_builtin; refine Kd.R_append_rows k58 (w0 := w) w.heap.size rfl (.tmp 17) (.tmp 19) 50 58 (.agg #[(.int .i64 0), (.int .i64 0), (.int .i64 0)]) 24 rfl Try.underlying50 info58 rfl (by decide) (by omega) v496 y495 l0_0 _ _ _ (fun _ => True) (fun _ => False) rfl rfl ?aO ?aR (fun _ _ h => h) (fun _ h => h.elim) ?aF ?aB ?aS ?aL ?_; (case aR => repeat (first | exact (jY HR0_0.out HB.out) | (with_reducible refine Xc ?_))); (case aB => exact Ub); (case aF => exact (fun _ _ => trivial)); (case aO => exact (Rm HO497.out)); (case aS => exact (jL Ub)); (case aL => have := LMc19.out; omega); intro v499 w24 ho hb hg hat; rw [← Ny498.out] at ho; replace BK491 := jA (js (g := gb491) (o := .cells #[.slice A0_0 l0_0.length c0_0] 52 (0, 0)) (Bm BK491.out) hg (Kd.R_ne HO497.out BK491.out (by decide))); replace BK492 := jA (js (g := gb492) (o := .cells #[.slice none 0 0] 52 (0, 0)) (Bm BK492.out) hg (Kd.R_ne HO497.out BK492.out (by decide))); replace HB := jA (hb); have HO500 := jA (ho); clear HO497; clear ho hb hg hat))
     go_loopg [4, 5] kj1 (fun kq v4 v5 w' => ∃ (x4_2 : List (S58)) (x5_2 : Int), v5 = .int .i64 x5_2 ∧ Aside0 (spec_HarderPuzzle.l0 kq x4_2 x5_2 = some (r1, r2)) ∧ Aside0 (kq ≤ kj1) ∧ Aside0 (Kd.R k58 58 w' w.heap.size (fun _ => True) v4 x4_2) ∧ Aside0 (w'.heap[gb491]? = some (.cells #[(.slice A0_0 l0_0.length c0_0)] 52 (0, 0))) ∧ Aside0 (w'.heap[gb492]? = some (.cells #[(.slice none 0 0)] 52 (0, 0))) ∧ Aside0 (Below w.heap.size w w'))
     case atStart => exact ⟨(y498), (0), Rs, H', ⟨jX _⟩, ⟨Rm HO500.out⟩, ⟨Bm BK491.out⟩, ⟨Bm BK492.out⟩, ⟨Ub⟩⟩
     case round =>
      clear H'
      try clear c16
      try clear c19
      try clear hcz11_0
      try clear hcz14_0
      try clear hcz18_0
      try clear hcz23_0
      try clear hcz9_0
      try clear hfz11_0
      try clear hfz14_0
      try clear hfz18_0
      try clear hfz23_0
      try clear hfz9_0
      obtain ⟨x4_2, x5_2, rfl, HA, HK2, HO_4, BK491, BK492, HB⟩ := hrel
      cases gk with
      | zero => exact absurd HA.out (by simp [spec_HarderPuzzle.l0])
      | succ k2 =>
       have H := HA.out
       clear HA
       simp only [spec_HarderPuzzle.l0] at H
       replace H := Ic H; rcases H with ⟨c25, H⟩ | ⟨c25, H⟩
       · have c25b0 := jK c25
         clear c25
         replace H := jD H
         obtain ⟨t501, A260, H⟩ := H
         have A26 := jA A260
         clear A260
         replace H := jD H
         obtain ⟨t504, A270, H⟩ := H
         have A27 := jA A270
         clear A270
         replace H := Iw H; rcases H with ⟨rfl, H⟩ | ⟨rfl, H⟩
         · have H' := jA H
           clear H
           obtain ⟨Ao29, co29, eo29⟩ := jq HO_4.out
           subst eo29
           go_wp2_with (first | (refine Gl 27 #[.slice Ao29 x4_2.length co29, .int .i64 x5_2] Try.func228 ?_; (with_reducible refine (spec_pzWithout.calls _ _ x4_2 x5_2 t501 _ (Cm (Kd.R_reads' HO_4.out).2.2) ((Kd.R_reads' HO_4.out).2.1) A26.out).mono ?_); rintro e w30 ⟨v502, rfl, ho0, hb⟩; refine ⟨_, rfl, ?_⟩; have HO503 := jA (jf (Kd.R_new' ho0 (jr (Rm HO_4.out))) (jL Ub)); replace HO_4 := jA (Kd.R_elder' (Rm HO_4.out) (Kd.R_base ho0) hb); replace BK491 := jA (jN (g := gb491) (o := .cells #[.slice A0_0 l0_0.length c0_0] 52 (0, 0)) (Bm BK491.out) hb); replace BK492 := jA (jN (g := gb492) (o := .cells #[.slice none 0 0] 52 (0, 0)) (Bm BK492.out) hb); replace HB := jA (jB Ub hb); clear hb ho0; obtain ⟨Ao31, co31, eo31⟩ := jq HO503.out; subst eo31) | (refine Gl 29 #[.slice Ao31 t501.length co31] Try.func227 ?_; (with_reducible refine (spec_pzSolved.calls k2 _ _ t501 true _ (Cm (Kd.R_reads' HO503.out).2.2) ((Kd.R_reads' HO503.out).2.1) A27.out).mono ?_); rintro e w32 ⟨rfl, hb⟩; refine ⟨_, rfl, ?_⟩; replace HO_4 := jA (Kd.R_below (Rm HO_4.out) hb); replace HO503 := jA (Kd.R_below (Rm HO503.out) hb); replace BK491 := jA (jN (g := gb491) (o := .cells #[.slice A0_0 l0_0.length c0_0] 52 (0, 0)) (Bm BK491.out) hb); replace BK492 := jA (jN (g := gb492) (o := .cells #[.slice none 0 0] 52 (0, 0)) (Bm BK492.out) hb); replace HB := jA (jB Ub hb); clear hb))
           go_roundg k2
           case measure => have := HJ1.out; have := HK2.out; omega
           case rel => exact ⟨(t501), (x5_2), Rs, H', ⟨by have := HJ1.out; have := HK2.out; omega⟩, ⟨by (with_reducible repeat apply Xq); exact jW HO503.out (fun _ hk => trivial)⟩, ⟨Bm BK491.out⟩, ⟨Bm BK492.out⟩, ⟨Ub⟩⟩
         have H' := jA H
         clear H
         obtain ⟨Ao33, co33, eo33⟩ := jq HO_4.out
         subst eo33
         go_wp2_with (first | (refine Gl 27 #[.slice Ao33 x4_2.length co33, .int .i64 x5_2] Try.func228 ?_; (with_reducible refine (spec_pzWithout.calls _ _ x4_2 x5_2 t501 _ (Cm (Kd.R_reads' HO_4.out).2.2) ((Kd.R_reads' HO_4.out).2.1) A26.out).mono ?_); rintro e w34 ⟨v502, rfl, ho0, hb⟩; refine ⟨_, rfl, ?_⟩; have HO503 := jA (jf (Kd.R_new' ho0 (jr (Rm HO_4.out))) (jL Ub)); replace HO_4 := jA (Kd.R_elder' (Rm HO_4.out) (Kd.R_base ho0) hb); replace BK491 := jA (jN (g := gb491) (o := .cells #[.slice A0_0 l0_0.length c0_0] 52 (0, 0)) (Bm BK491.out) hb); replace BK492 := jA (jN (g := gb492) (o := .cells #[.slice none 0 0] 52 (0, 0)) (Bm BK492.out) hb); replace HB := jA (jB Ub hb); clear hb ho0; obtain ⟨Ao35, co35, eo35⟩ := jq HO503.out; subst eo35) | (refine Gl 29 #[.slice Ao35 t501.length co35] Try.func227 ?_; (with_reducible refine (spec_pzSolved.calls k2 _ _ t501 false _ (Cm (Kd.R_reads' HO503.out).2.2) ((Kd.R_reads' HO503.out).2.1) A27.out).mono ?_); rintro e w36 ⟨rfl, hb⟩; refine ⟨_, rfl, ?_⟩; replace HO_4 := jA (Kd.R_below (Rm HO_4.out) hb); replace HO503 := jA (Kd.R_below (Rm HO503.out) hb); replace BK491 := jA (jN (g := gb491) (o := .cells #[.slice A0_0 l0_0.length c0_0] 52 (0, 0)) (Bm BK491.out) hb); replace BK492 := jA (jN (g := gb492) (o := .cells #[.slice none 0 0] 52 (0, 0)) (Bm BK492.out) hb); replace HB := jA (jB Ub hb); clear hb))
         go_roundg k2
         case measure => have := HJ1.out; have := HK2.out; omega
         case rel => exact ⟨(x4_2), (wrap64 (x5_2 + 1)), Rs, H', ⟨by have := HJ1.out; have := HK2.out; omega⟩, ⟨by (with_reducible repeat apply Xq); exact jW HO_4.out (fun _ hk => trivial)⟩, ⟨Bm BK491.out⟩, ⟨Bm BK492.out⟩, ⟨Ub⟩⟩
       have c25b0 := jV c25
       clear c25
       simp only [Option.some.injEq, Prod.mk.injEq] at H
       obtain ⟨rfl, rfl⟩ := H
       obtain ⟨Ao37, co37, eo37⟩ := jq HO_4.out
       subst eo37
       have hnb38 := NB492_491.out
       have hnc38 := NB491_492.out
       have hcz39_0 : wr.cell? ⟨gb492, 0, none⟩ = some (.slice none 0 0) := (jE BK492.out 0).trans rfl
       have hfz39_0 := jF BK492.out 0
       go_wp2
       refine bodyPost_ret (results_ct rfl _ _ gb492 52 #[.slice Ao37 x4_2.length co37] (0, 0) _ rfl (by (with_reducible repeat refine Xg ?_); refine jp (cs := #[.slice none 0 0]) ?_ 0 _ rfl; (with_reducible repeat refine Xg ?_); exact BK492.out) Try.underlying52 rfl (by kernel_rfl)) rfl ?_
       exact ⟨_, Re, by (with_reducible repeat apply Xq); exact jW (jg (p := ⟨gb492, 0, none⟩) (jm HO_4.out BK492.out (by decide)) (fun _ hk => hk.2) (.slice Ao37 x4_2.length co37)) (fun _ hk => trivial), Ub⟩
   exact absurd H (by simp)

/-! ### impl_NeedlessClues: function 90 -/
def impl_NeedlessClues.l0 : Nat → Int → List Int → Int → Int → List (S58) → Option (List Int × Bool)
 | 0, _, _, _, _, _ => none
 | k + 1, x4, x6, x18, x19, x506000 => if x19 < x18 then ((impl_dropped.f x506000 x19).bind fun t511 => ((impl_solve.f k t511).bind fun t514 => (if (t514.length : Int) = x4 then (if x6.length < 17592186044416 then (impl_NeedlessClues.l0 k x4 (x6 ++ [x19]) x18 (wrap64 (x19 + 1)) x506000) else (none)) else (impl_NeedlessClues.l0 k x4 x6 x18 (wrap64 (x19 + 1)) x506000)))) else (some (x6, true))
def impl_NeedlessClues.f (k : Nat) (l0_0 : List (S58)) : Option (List Int × Bool) := (impl_CountSolutions.f k l0_0).bind fun bt506 => (if bt506.2 = true then (impl_NeedlessClues.l0 k bt506.1 (([] : List Int)) (l0_0.length : Int) 0 l0_0) else (some (([] : List Int), false)))
theorem impl_NeedlessClues.calls (k : Nat) (A0_0 : Option Addr) (c0_0 : Nat) (l0_0 : List (S58)) (r1 : List Int) (r2 : Bool) (w : World) (hr0_0 : Kd.C k58 w A0_0 l0_0.length l0_0) (hc0_0 : l0_0.length ≤ c0_0) (h : impl_NeedlessClues.f k l0_0 = some (r1, r2)) :
 Calls Try.prog 90 #[.agg #[.slice A0_0 l0_0.length c0_0]] w fun e w' => ∃ v0_ : Value, e = .returned (.tuple #[v0_, .bool r2]) ∧ Kd.R (Kd.int .i64) 3 w' w.heap.size (fun _ => True) v0_ r1 ∧ Below w.heap.size w w' := by
 have hu52 := Try.underlying52
 have HR0_0 := jA hr0_0
 have HC0_0 := jA hc0_0
 clear hr0_0 hc0_0
 have HB := jA (jU w.heap.size w)
 have H := h; unfold impl_NeedlessClues.f at H
 clear h
 replace H := jD H
 obtain ⟨⟨t506, t507⟩, A20, H⟩ := H
 have A2 := jA A20
 clear A20
 replace H := Iw H; rcases H with ⟨rfl, H⟩ | ⟨rfl, H⟩
 · obtain ⟨y508, hy508⟩ : ∃ y_ : List Int, y_ = (([] : List Int)) := ⟨_, rfl⟩
   replace H : (impl_NeedlessClues.l0 k t506 y508 (l0_0.length : Int) 0 l0_0) = some (r1, r2) := by first | (rw [hy508]; with_reducible exact H) | (have H2_ := (Option.bind_some _ _).symm.trans H; rw [hy508]; with_reducible exact H2_) | (have H2_ := (Option.bind_some _ _).symm.trans H; with_reducible exact H2_) | with_reducible exact H | (rw [hy508]; exact H) | exact H
   have Ny508 := jA hy508
   clear hy508
   have H' := jA H
   clear H
   go_enter Try.func90, Try.ntmps90
   go_wp2_with (first | ((with_reducible refine gate_dst (N := 1) rfl ?_); refine box_event ?hg (N := 1) ?hd (cs := #[.slice A0_0 l0_0.length c0_0]) (t := 52) ?hr ?_; (case hd => rfl); (case hg => rfl); (case hr => first | (go_simp; done) | (go_simp; rfl)); intro gb505 hg w4 hbox hb; have BK505 := jA (hbox); have GW505 := jA ((by rw [hg]; exact (jL Ub) : w.heap.size ≤ gb505)); have GE505 := jA ((by rw [hg]; exact (jL Ub) : w.heap.size ≤ gb505)); replace HB := jA (jB Ub hb); clear hb hbox hg; have hcz5_0 : w4.cell? ⟨gb505, 0, none⟩ = some (.slice A0_0 l0_0.length c0_0) := (jE BK505.out 0).trans rfl; have hfz5_0 := jF BK505.out 0) | (refine Gl 10 #[.agg #[.slice A0_0 l0_0.length c0_0]] Try.func229 ?_; (with_reducible refine (impl_CountSolutions.calls k _ _ l0_0 t506 true _ (Cm (jY HR0_0.out HB.out)) HC0_0.out A2.out).mono ?_); rintro e w6 ⟨rfl, hb⟩; refine ⟨_, rfl, ?_⟩; replace BK505 := jA (jN (g := gb505) (o := .cells #[.slice A0_0 l0_0.length c0_0] 52 (0, 0)) (Bm BK505.out) hb); replace HB := jA (jB Ub hb); clear hb) | ((with_reducible refine gate_dst (N := 15) rfl ?_); refine Kd.R_lit (Kd.int .i64) _ 3 ?hg (N := 15) ?hd (xs := ([] : List Int)) (inner := []) (ok := fun _ => True) (okp := fun _ => True) ?hr ?hp (fun _ hk => hk) trivial (jU _ _) (jX _) (by simp) ?_; (case hd => rfl); (case hg => rfl); (case hr => first | (go_simp; done) | (go_simp; rfl)); (case hp => exact (Reps.none _ _)); intro v509 w7 ho8 hb hg_ hnew_; clear hg_ hnew_; (first | rw [← Ny508.out] at ho8 | (simp only [Int.reduceToNat] at ho8; rw [← Ny508.out] at ho8)); have HO510 := jA (jf ho8 (jL Ub)); replace BK505 := jA (jN (g := gb505) (o := .cells #[.slice A0_0 l0_0.length c0_0] 52 (0, 0)) (Bm BK505.out) hb); replace HB := jA (jB Ub hb); clear hb ho8; have hcz9_0 : w7.cell? ⟨gb505, 0, none⟩ = some (.slice A0_0 l0_0.length c0_0) := (jE BK505.out 0).trans rfl; have hfz9_0 := jF BK505.out 0))
   go_loopg [6, 19] k (fun kq v6 v19 w' => ∃ (x6_1 : List Int) (x19_1 : Int), v19 = .int .i64 x19_1 ∧ Aside0 (impl_NeedlessClues.l0 kq t506 x6_1 (l0_0.length : Int) x19_1 l0_0 = some (r1, r2)) ∧ Aside0 (kq ≤ k) ∧ Aside0 (Kd.R (Kd.int .i64) 3 w' w.heap.size (fun _ => True) v6 x6_1) ∧ Aside0 (w'.heap[gb505]? = some (.cells #[(.slice A0_0 l0_0.length c0_0)] 52 (0, 0))) ∧ Aside0 (Below w.heap.size w w'))
   case atStart => exact ⟨(y508), (0), Rs, H', ⟨jX _⟩, ⟨Rm HO510.out⟩, ⟨Bm BK505.out⟩, ⟨Ub⟩⟩
   case round =>
    clear H'
    try clear hcz5_0
    try clear hcz9_0
    try clear hfz5_0
    try clear hfz9_0
    obtain ⟨x6_1, x19_1, rfl, HA, HK1, HO_6, BK505, HB⟩ := hrel
    cases gk with
    | zero => exact absurd HA.out (by simp [impl_NeedlessClues.l0])
    | succ k1 =>
     have H := HA.out
     clear HA
     simp only [impl_NeedlessClues.l0] at H
     replace H := Ic H; rcases H with ⟨c10, H⟩ | ⟨c10, H⟩
     · have c10b0 := jK c10
       clear c10
       replace H := jD H
       obtain ⟨t511, A110, H⟩ := H
       have A11 := jA A110
       clear A110
       replace H := jD H
       obtain ⟨t514, A120, H⟩ := H
       have A12 := jA A120
       clear A120
       replace H := Ic H; rcases H with ⟨c13, H⟩ | ⟨c13, H⟩
       · have c13b0 : ((t514.length : Int) == t506) = true := beq_iff_eq.mpr c13
         have c13b1 := bne_eq_false_iff_eq.mpr c13
         clear c13
         replace H := Ip H; obtain ⟨c14, H⟩ := H
         have LMc14 := jA c14
         clear c14
         obtain ⟨y517, hy517⟩ : ∃ y_ : List Int, y_ = (x6_1 ++ [x19_1]) := ⟨_, rfl⟩
         replace H : (impl_NeedlessClues.l0 k1 t506 y517 (l0_0.length : Int) (wrap64 (x19_1 + 1)) l0_0) = some (r1, r2) := by first | (rw [hy517]; with_reducible exact H) | (have H2_ := (Option.bind_some _ _).symm.trans H; rw [hy517]; with_reducible exact H2_) | (have H2_ := (Option.bind_some _ _).symm.trans H; with_reducible exact H2_) | with_reducible exact H | (rw [hy517]; exact H) | exact H
         have Ny517 := jA hy517
         clear hy517
         have H' := jA H
         clear H
         have hcz15_0 : wr.cell? ⟨gb505, 0, none⟩ = some (.slice A0_0 l0_0.length c0_0) := (jE BK505.out 0).trans rfl
         have hfz15_0 := jF BK505.out 0
         go_wp2_with (first | (refine Gl 25 #[.slice A0_0 l0_0.length c0_0, .int .i64 x19_1] Try.func224 ?_; (with_reducible refine (impl_dropped.calls _ _ l0_0 x19_1 t511 _ (Cm (jY HR0_0.out HB.out)) HC0_0.out A11.out).mono ?_); rintro e w16 ⟨v512, rfl, ho0, hb⟩; refine ⟨_, rfl, ?_⟩; replace HO_6 := jA (Kd.R_below (Rm HO_6.out) hb); have HO513 := jA (jf ho0 (jL Ub)); replace BK505 := jA (jN (g := gb505) (o := .cells #[.slice A0_0 l0_0.length c0_0] 52 (0, 0)) (Bm BK505.out) hb); replace HB := jA (jB Ub hb); clear hb ho0; obtain ⟨Ao17, co17, eo17⟩ := jq HO513.out; subst eo17) | (refine Gl 26 #[.slice Ao17 t511.length co17] Try.func225 ?_; (with_reducible refine (impl_solve.calls k1 _ _ t511 t514 _ (Cm (Kd.R_reads' HO513.out).2.2) ((Kd.R_reads' HO513.out).2.1) A12.out).mono ?_); rintro e w18 ⟨v515, rfl, ho0, hb⟩; refine ⟨_, rfl, ?_⟩; replace HO513 := jA (Kd.R_below (Rm HO513.out) hb); have HO516 := jA (Kd.S_lower (Kd.S_new' ho0 (jr (Rm HO_6.out))) (jL Ub)); replace HO_6 := jA (Kd.R_below (Rm HO_6.out) hb); replace BK505 := jA (jN (g := gb505) (o := .cells #[.slice A0_0 l0_0.length c0_0] 52 (0, 0)) (Bm BK505.out) hb); replace HB := jA (jB Ub hb); clear hb ho0; obtain ⟨Ao19, co19, eo19⟩ := Kd.S_slice HO516.out; subst eo19) | ((with_reducible refine gate_builtin (b := .append) (xs := #[.tmp 30, .tmp 32]) rfl ?_); at_builtin; refine Kd.R_append (Kd.int .i64) (w0 := w) w.heap.size rfl (.tmp 30) (.tmp 32) 24 3 (.int .i64 0) 8 rfl Try.underlying24 info3 rfl (by decide) (by omega) u6 x6_1 x19_1 [.int .i64 x19_1] (fun _ => True) (fun _ => False) rfl rfl ?aP (fun _ hk => hk.elim) ?aF ?aO ?aB ?aS ?aL ?_; (case aP => exact rfl); (case aB => exact Ub); (case aF => exact (fun _ _ => trivial)); (case aO => exact (Rm HO_6.out)); (case aS => exact (jL Ub)); (case aL => have := LMc14.out; omega); intro v518 w20 ho hb hg hat; rw [← Ny517.out] at ho; replace BK505 := jA (js (g := gb505) (o := .cells #[.slice A0_0 l0_0.length c0_0] 52 (0, 0)) (Bm BK505.out) hg (Kd.R_ne HO_6.out BK505.out (by decide))); replace HO513 := jA (Kd.R_over' (Rm HO513.out) (Kd.R_typed (Rm HO_6.out)) (by decide) hg); replace HO516 := jA (Kd.S_after (ok := (fun _ => True)) (Sm HO516.out) hg hat); replace HB := jA (hb); have HO519 := jA (ho); clear HO_6; clear ho hb hg hat))
         go_roundg k1
         case measure => have := HK1.out; omega
         case rel => exact ⟨(y517), (wrap64 (x19_1 + 1)), Rs, H', ⟨by have := HK1.out; omega⟩, ⟨Rm HO519.out⟩, ⟨Bm BK505.out⟩, ⟨Ub⟩⟩
       have c13b0 : ((t514.length : Int) == t506) = false := beq_eq_false_iff_ne.mpr c13
       have c13b1 := bne_iff_ne.mpr c13
       have H' := jA H
       clear H
       have hcz21_0 : wr.cell? ⟨gb505, 0, none⟩ = some (.slice A0_0 l0_0.length c0_0) := (jE BK505.out 0).trans rfl
       have hfz21_0 := jF BK505.out 0
       go_wp2_with (first | (refine Gl 25 #[.slice A0_0 l0_0.length c0_0, .int .i64 x19_1] Try.func224 ?_; (with_reducible refine (impl_dropped.calls _ _ l0_0 x19_1 t511 _ (Cm (jY HR0_0.out HB.out)) HC0_0.out A11.out).mono ?_); rintro e w22 ⟨v512, rfl, ho0, hb⟩; refine ⟨_, rfl, ?_⟩; replace HO_6 := jA (Kd.R_below (Rm HO_6.out) hb); have HO513 := jA (jf ho0 (jL Ub)); replace BK505 := jA (jN (g := gb505) (o := .cells #[.slice A0_0 l0_0.length c0_0] 52 (0, 0)) (Bm BK505.out) hb); replace HB := jA (jB Ub hb); clear hb ho0; obtain ⟨Ao23, co23, eo23⟩ := jq HO513.out; subst eo23) | (refine Gl 26 #[.slice Ao23 t511.length co23] Try.func225 ?_; (with_reducible refine (impl_solve.calls k1 _ _ t511 t514 _ (Cm (Kd.R_reads' HO513.out).2.2) ((Kd.R_reads' HO513.out).2.1) A12.out).mono ?_); rintro e w24 ⟨v515, rfl, ho0, hb⟩; refine ⟨_, rfl, ?_⟩; replace HO513 := jA (Kd.R_below (Rm HO513.out) hb); have HO516 := jA (Kd.S_lower (Kd.S_new' ho0 (jr (Rm HO_6.out))) (jL Ub)); replace HO_6 := jA (Kd.R_below (Rm HO_6.out) hb); replace BK505 := jA (jN (g := gb505) (o := .cells #[.slice A0_0 l0_0.length c0_0] 52 (0, 0)) (Bm BK505.out) hb); replace HB := jA (jB Ub hb); clear hb ho0; obtain ⟨Ao25, co25, eo25⟩ := Kd.S_slice HO516.out; subst eo25))
       go_roundg k1
       case measure => have := HK1.out; omega
       case rel => exact ⟨(x6_1), (wrap64 (x19_1 + 1)), Rs, H', ⟨by have := HK1.out; omega⟩, ⟨Rm HO_6.out⟩, ⟨Bm BK505.out⟩, ⟨Ub⟩⟩
     have c10b0 := jV c10
     clear c10
     simp only [Option.some.injEq, Prod.mk.injEq] at H
     obtain ⟨rfl, rfl⟩ := H
     go_wp2
     go_ret2
     exact ⟨_, Re, Rm HO_6.out, Ub⟩
 simp only [Option.some.injEq, Prod.mk.injEq] at H
 obtain ⟨rfl, rfl⟩ := H
 go_enter Try.func90, Try.ntmps90
 go_wp2_with (first | ((with_reducible refine gate_dst (N := 1) rfl ?_); refine box_event ?hg (N := 1) ?hd (cs := #[.slice A0_0 l0_0.length c0_0]) (t := 52) ?hr ?_; (case hd => rfl); (case hg => rfl); (case hr => first | (go_simp; done) | (go_simp; rfl)); intro gb505 hg w26 hbox hb; have BK505 := jA (hbox); have GW505 := jA ((by rw [hg]; exact (jL Ub) : w.heap.size ≤ gb505)); have GE505 := jA ((by rw [hg]; exact (jL Ub) : w.heap.size ≤ gb505)); replace HB := jA (jB Ub hb); clear hb hbox hg; have hcz27_0 : w26.cell? ⟨gb505, 0, none⟩ = some (.slice A0_0 l0_0.length c0_0) := (jE BK505.out 0).trans rfl; have hfz27_0 := jF BK505.out 0) | (refine Gl 10 #[.agg #[.slice A0_0 l0_0.length c0_0]] Try.func229 ?_; (with_reducible refine (impl_CountSolutions.calls k _ _ l0_0 t506 false _ (Cm (jY HR0_0.out HB.out)) HC0_0.out A2.out).mono ?_); rintro e w28 ⟨rfl, hb⟩; refine ⟨_, rfl, ?_⟩; replace BK505 := jA (jN (g := gb505) (o := .cells #[.slice A0_0 l0_0.length c0_0] 52 (0, 0)) (Bm BK505.out) hb); replace HB := jA (jB Ub hb); clear hb))
 go_ret2
 exact ⟨_, Re, Nl, Ub⟩

/-! ### laws_jSame: function 157 -/
def laws_jSame.l0 : Nat → List Int → List Int → Int → Int → Option (Bool)
 | 0, _, _, _, _ => none
 | k + 1, x0, x1, x12, x13 => if x13 < x12 then (if 0 ≤ x13 then (if x13 < (x0.length : Int) then (if x13 < (x1.length : Int) then (if (rd x0 x13) = (rd x1 x13) then (laws_jSame.l0 k x0 x1 x12 (wrap64 (x13 + 1))) else (some false)) else (none)) else (none)) else (none)) else (some true)
def laws_jSame.f (k : Nat) (l0 : List Int) (l1 : List Int) : Option (Bool) := if (l0.length : Int) = (l1.length : Int) then (laws_jSame.l0 k l0 l1 (l0.length : Int) 0) else (some false)
theorem laws_jSame.calls (k : Nat) (A0 : Option Addr) (c0 : Nat) (l0 : List Int) (A1 : Option Addr) (c1 : Nat) (l1 : List Int) (r : Bool) (w : World) (hr0 : Kd.C (Kd.int .i64) w A0 l0.length l0) (hc0 : l0.length ≤ c0) (hr1 : Kd.C (Kd.int .i64) w A1 l1.length l1) (hc1 : l1.length ≤ c1) (h : laws_jSame.f k l0 l1 = some r) :
 Calls Try.prog 157 #[.slice A0 l0.length c0, .slice A1 l1.length c1] w fun e w' => e = .returned (.bool r) ∧ Drawn0 w w' := by
 have HR0 := jA hr0
 have HC0 := jA hc0
 clear hr0 hc0
 have HR1 := jA hr1
 have HC1 := jA hc1
 clear hr1 hc1
 have H := h; unfold laws_jSame.f at H
 clear h
 replace H := Ic H; rcases H with ⟨c3, H⟩ | ⟨c3, H⟩
 · have c3b0 : ((l0.length : Int) == (l1.length : Int)) = true := beq_iff_eq.mpr c3
   have c3b1 := bne_eq_false_iff_eq.mpr c3
   have c3b2 : (l0.length == l1.length) = true := by first | simpa using c3 | (simp at c3 ⊢; omega)
   clear c3
   have H' := jA H
   clear H
   go_enter Try.func157, Try.ntmps157
   go_wp2
   repeat (go_quiet (fail); try go_wp2)
   go_loopg [13] k (fun kq v13 w' => ∃ (x13_1 : Int), v13 = .int .i64 x13_1 ∧ Aside0 (laws_jSame.l0 kq l0 l1 (l0.length : Int) x13_1 = some r) ∧ Aside0 (kq ≤ k) ∧ Drawn0 w w')
   case atStart => exact ⟨(0), Rs, H', ⟨jX _⟩, Dr⟩
   case round =>
    clear H'
    try clear c1
    try clear c3
    try clear c3b0
    try clear c3b1
    try clear c3b2
    obtain ⟨x13_1, rfl, HA, HK1, ⟨m1, rfl⟩⟩ := hrel
    cases gk with
    | zero => exact absurd HA.out (by simp [laws_jSame.l0])
    | succ k1 =>
     have H := HA.out
     clear HA
     simp only [laws_jSame.l0] at H
     replace H := Ic H; rcases H with ⟨c4, H⟩ | ⟨c4, H⟩
     · have c4b0 := jK c4
       clear c4
       replace H := Ip H; obtain ⟨c5, H⟩ := H
       have c5b0 := jK c5
       clear c5
       replace H := Ip H; obtain ⟨c6, H⟩ := H
       have c6b0 := jK c6
       clear c6
       replace H := Ip H; obtain ⟨c7, H⟩ := H
       have c7b0 := jK c7
       clear c7
       replace H := Ic H; rcases H with ⟨c8, H⟩ | ⟨c8, H⟩
       · have c8b0 : ((rd l0 x13_1) == (rd l1 x13_1)) = true := beq_iff_eq.mpr c8
         have c8b1 := bne_eq_false_iff_eq.mpr c8
         clear c8
         have H' := jA H
         clear H
         obtain ⟨p520, q520, ad520, e520, hx520_0⟩ := Ai HR0.out x13_1
         cases e520
         obtain ⟨p521, q521, ad521, e521, hx521_0⟩ := Ai HR1.out x13_1
         cases e521
         go_wp2
         repeat (go_quiet (fail); try go_wp2)
         go_roundg k1
         case measure => have := HK1.out; omega
         case rel => exact ⟨(wrap64 (x13_1 + 1)), Rs, H', ⟨by have := HK1.out; omega⟩, Dr⟩
       have c8b0 : ((rd l0 x13_1) == (rd l1 x13_1)) = false := beq_eq_false_iff_ne.mpr c8
       have c8b1 := bne_iff_ne.mpr c8
       obtain rfl := jM H
       obtain ⟨p520, q520, ad520, e520, hx520_0⟩ := Ai HR0.out x13_1
       cases e520
       obtain ⟨p521, q521, ad521, e521, hx521_0⟩ := Ai HR1.out x13_1
       cases e521
       go_wp2
       repeat (go_quiet (fail); try go_wp2)
       go_ret
       exact ⟨Rs, Dr⟩
     have c4b0 := jV c4
     clear c4
     obtain rfl := jM H
     go_wp2
     repeat (go_quiet (fail); try go_wp2)
     go_ret
     exact ⟨Rs, Dr⟩
 have c3b0 : ((l0.length : Int) == (l1.length : Int)) = false := beq_eq_false_iff_ne.mpr c3
 have c3b1 := bne_iff_ne.mpr c3
 have c3b2 : (l0.length == l1.length) = false := by first | simpa using c3 | (simp at c3 ⊢; omega)
 obtain rfl := jM H
 go_enter Try.func157, Try.ntmps157
 go_wp2
 repeat (go_quiet (fail); try go_wp2)
 go_ret
 exact ⟨Rs, Dr⟩

end Go.Proofs.Ytgeoihhibglhgaa.PFnPiecesHidden
