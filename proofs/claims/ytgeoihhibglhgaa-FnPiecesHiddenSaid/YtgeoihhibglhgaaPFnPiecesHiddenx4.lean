-- printed by wip/xp
import Derived.Test.YtgeoihhibglhgaaPFnPiecesHiddenx0
import Derived.Test.YtgeoihhibglhgaaPFnPiecesHiddenx3
set_option maxHeartbeats 8000000
set_option maxRecDepth 100000
namespace Go.Proofs.Ytgeoihhibglhgaa.PFnPiecesHidden
open Go.RowKit Go.Proofs.YtgeoihhibglhgaaW.PrintWords Go.Proofs.YtgeoihhibglhgaaW.PrintLast Go.Proofs.YtgeoihhibglhgaaW.PrintMore Go.Proofs.Ytgeoihhibglhgaa.Xmv
attribute [local go_sem] max2_int min2_int max_two min_two max_three min_three max_four min_four
set_option linter.unusedVariables false
set_option linter.unusedSimpArgs false

/-! ### spec_piPut: function 283 -/
def spec_piPut.l0 : Nat → List Int → Int → Int → Option (List Int)
 | 0, _, _, _ => none
 | k + 1, x0, x1, x5 => if x5 > 0 then (if 0 ≤ (wrap64 (x5 - 1)) then (if (wrap64 (x5 - 1)) < (x0.length : Int) then (if (rd x0 (wrap64 (x5 - 1))) > x1 then (spec_piPut.l0 k x0 x1 (wrap64 (x5 - 1))) else (if 0 ≤ x5 then (if x5 ≤ (x0.length : Int) then ((spec_l1Own.f (x0.take (x5 : Int).toNat)).bind fun t154 => ((some (([x1] : List Int) : List Int)).bind fun y157 => (if t154.length + y157.length < 17592186044416 then ((some (t154 ++ y157 : List Int)).bind fun y160 => (if y160.length + (x0.drop (x5 : Int).toNat).length < 17592186044416 then (some (y160 ++ (x0.drop (x5 : Int).toNat))) else (none))) else (none)))) else (none)) else (none))) else (none)) else (none)) else (if 0 ≤ x5 then (if x5 ≤ (x0.length : Int) then ((spec_l1Own.f (x0.take (x5 : Int).toNat)).bind fun t168 => ((some (([x1] : List Int) : List Int)).bind fun y171 => (if t168.length + y171.length < 17592186044416 then ((some (t168 ++ y171 : List Int)).bind fun y174 => (if y174.length + (x0.drop (x5 : Int).toNat).length < 17592186044416 then (some (y174 ++ (x0.drop (x5 : Int).toNat))) else (none))) else (none)))) else (none)) else (none))
def spec_piPut.f (k : Nat) (l0 : List Int) (a1 : Int) : Option (List Int) := spec_piPut.l0 k l0 a1 (l0.length : Int)
def spec_piPut.T4 : Bool × List (List Nat × List Nat) := (true, [([], []), ([], []), ([0, 1], [0, 1]), ([2], [2]), ([], []), ([4], [4]), ([3, 5, 3], [3, 5]), ([], []), ([], []), ([7, 8], [7, 8]), ([6, 9, 6], [6, 9]), ([10, 10, 0, 1, 2, 3, 4, 5, 6, 7, 8, 9, 10], [10])])
def spec_piPut.B4 : List Nat := [0, 0, 3, 7, 0, 16, 63, 0, 0, 384, 1023, 2047]
theorem spec_piPut.tab4 : rtab .any (opsOf Try.f283 4) = spec_piPut.T4 := by kernel_rfl
theorem spec_piPut.bits4 : waitsOk spec_piPut.T4.2 spec_piPut.B4 = true := by kernel_rfl
theorem spec_piPut.calls (k : Nat) (A0 : Option Addr) (c0 : Nat) (l0 : List Int) (a1 : Int) (r : List Int) (w : World) (hr0 : Kd.C (Kd.int .i64) w A0 l0.length l0) (hc0 : l0.length ≤ c0) (h : spec_piPut.f k l0 a1 = some r) :
 Calls Try.prog 283 #[.slice A0 l0.length c0, .int .i64 a1] w fun e w' => ∃ v0_ : Value, e = .returned (v0_) ∧ Kd.R (Kd.int .i64) 3 w' w.heap.size (fun _ => True) v0_ r ∧ Below w.heap.size w w' := by
 have HR0 := jA hr0
 have HC0 := jA hc0
 clear hr0 hc0
 have HB := jA (jU w.heap.size w)
 have H := h; unfold spec_piPut.f at H
 clear h
 have H' := jA H
 clear H
 go_enter Try.func283, Try.ntmps283
 go_wp2
 go_loopg [5] k (fun kq v5 w' => ∃ (x5_1 : Int), v5 = .int .i64 x5_1 ∧ Aside0 (spec_piPut.l0 kq l0 a1 x5_1 = some r) ∧ Aside0 (kq ≤ k) ∧ Aside0 (Below w.heap.size w w'))
 case atStart => exact ⟨((l0.length : Int)), Rs, H', ⟨jX _⟩, ⟨Ub⟩⟩
 case round =>
  clear H'
  obtain ⟨x5_1, rfl, HA, HK1, HB⟩ := hrel
  cases gk with
  | zero => exact absurd HA.out (by simp [spec_piPut.l0])
  | succ k1 =>
   have H := HA.out
   clear HA
   simp only [spec_piPut.l0] at H
   replace H := Ic H; rcases H with ⟨c3, H⟩ | ⟨c3, H⟩
   · have c3b0 : decide (0 < x5_1) = true := jK c3
     clear c3
     obtain ⟨ji4, hji4⟩ : ∃ j_ : Int, (wrap64 (x5_1 - 1)) = j_ := ⟨_, rfl⟩
     replace H : (if 0 ≤ (ji4) then (if (ji4) < (l0.length : Int) then (if (rd l0 (ji4)) > a1 then (spec_piPut.l0 k1 l0 a1 ji4) else (if 0 ≤ x5_1 then (if x5_1 ≤ (l0.length : Int) then ((spec_l1Own.f (l0.take (x5_1 : Int).toNat)).bind fun t154 => ((some (([a1] : List Int) : List Int)).bind fun y157 => (if t154.length + y157.length < 17592186044416 then ((some (t154 ++ y157 : List Int)).bind fun y160 => (if y160.length + (l0.drop (x5_1 : Int).toNat).length < 17592186044416 then (some (y160 ++ (l0.drop (x5_1 : Int).toNat))) else (none))) else (none)))) else (none)) else (none))) else (none)) else (none)) = some r := by first | (rw [hji4] at H; exact H) | (simp only [hji4] at H ⊢; exact H)
     have hji4w : (IntKind.i64.wrap (x5_1 - 1)) = ji4 := (i64_w _).trans hji4
     replace H := Ip H; obtain ⟨c5, H⟩ := H
     have c5b0 := jK c5
     clear c5
     replace H := Ip H; obtain ⟨c6, H⟩ := H
     have c6b0 := jK c6
     clear c6
     replace H := Ic H; rcases H with ⟨c7, H⟩ | ⟨c7, H⟩
     · have c7b0 : decide (a1 < (rd l0 (ji4))) = true := jK c7
       clear c7
       have H' := jA H
       clear H
       obtain ⟨p152, q152, ad152, e152, hx152_0⟩ := Ai HR0.out (ji4)
       cases e152
       replace hx152_0 := (HB.out.cell (World.block_lt_of_cell? w _ hx152_0)).trans hx152_0
       go_wp2
       go_roundg k1
       case measure => have := HK1.out; omega
       case rel => exact ⟨(ji4), (by first | rfl | (simp; done) | (simp only [← hji4] <;> (first | rfl | simp)) | (simp [*]; done)), H', ⟨by have := HK1.out; omega⟩, ⟨Ub⟩⟩
     have c7b0 : decide (a1 < (rd l0 (ji4))) = false := jV c7
     clear c7
     replace H := Ip H; obtain ⟨c8, H⟩ := H
     have c8b0 := eq_true c8
     have c8b1 := jK c8
     clear c8
     replace H := Ip H; obtain ⟨c9, H⟩ := H
     have c9b0 := eq_true c9
     have c9b1 := jK c9
     clear c9
     replace H := jD H
     obtain ⟨t154, A100, H⟩ := H
     have A10 := jA A100
     clear A100
     obtain ⟨y157, hy157⟩ : ∃ y_ : List Int, y_ = (([a1] : List Int)) := ⟨_, rfl⟩
     replace H : (if t154.length + y157.length < 17592186044416 then ((some (t154 ++ y157 : List Int)).bind fun y160 => (if y160.length + (l0.drop (x5_1 : Int).toNat).length < 17592186044416 then (some (y160 ++ (l0.drop (x5_1 : Int).toNat))) else (none))) else (none)) = some r := by first | (rw [hy157]; with_reducible exact H) | (have H2_ := (Option.bind_some _ _).symm.trans H; rw [hy157]; with_reducible exact H2_) | (have H2_ := (Option.bind_some _ _).symm.trans H; with_reducible exact H2_) | with_reducible exact H | (rw [hy157]; exact H) | exact H
     have Ny157 := jA hy157
     clear hy157
     replace H := Ip H; obtain ⟨c11, H⟩ := H
     have LMc11 := jA c11
     clear c11
     obtain ⟨y160, hy160⟩ : ∃ y_ : List Int, y_ = (t154 ++ y157) := ⟨_, rfl⟩
     replace H : (if y160.length + (l0.drop (x5_1 : Int).toNat).length < 17592186044416 then (some (y160 ++ (l0.drop (x5_1 : Int).toNat))) else (none)) = some r := by first | (rw [hy160]; with_reducible exact H) | (have H2_ := (Option.bind_some _ _).symm.trans H; rw [hy160]; with_reducible exact H2_) | (have H2_ := (Option.bind_some _ _).symm.trans H; with_reducible exact H2_) | with_reducible exact H | (rw [hy160]; exact H) | exact H
     have Ny160 := jA hy160
     clear hy160
     have c12b0 := eq_true (Oa : 0 ≤ x5_1)
     have c13b0 := eq_true (Oa : x5_1 ≤ (l0.length : Int))
     replace H := Ip H; obtain ⟨c14, H⟩ := H
     have LMc14 := jA c14
     clear c14
     obtain ⟨y164, hy164⟩ : ∃ y_ : List Int, y_ = (y160 ++ (l0.drop (x5_1 : Int).toNat)) := ⟨_, rfl⟩
     replace H : (some y164) = some r := by first | (rw [hy164]; with_reducible exact H) | (have H2_ := (Option.bind_some _ _).symm.trans H; rw [hy164]; with_reducible exact H2_) | (have H2_ := (Option.bind_some _ _).symm.trans H; with_reducible exact H2_) | with_reducible exact H | (rw [hy164]; exact H) | exact H
     have Ny164 := jA hy164
     clear hy164
     obtain rfl := jM H
     obtain ⟨p152, q152, ad152, e152, hx152_0⟩ := Ai HR0.out (ji4)
     cases e152
     replace hx152_0 := (HB.out.cell (World.block_lt_of_cell? w _ hx152_0)).trans hx152_0
     try go_wp2
     replace HB := jA (jQ HB.out)
     obtain ⟨i016, hi016, _, hsz16, _⟩ := info_parts info3
     obtain ⟨hcut16, hA16, hC16⟩ := print_take_of (P := Try.prog) (Value.int .i64) 0 24 3 .i64 Try.underlying24 hi016 hsz16 (some ad152) c0 l0 x5_1 (Oa) (Oa) HC0.out
     have HR153 := jA (Kd.C_of_reads (h1 := fun _ => rfl) (hA16 _ (Kd.reads_of_C HR0.out)))
     have HC153 := jA hC16
     clear hA16 hC16 hi016 hsz16
     obtain ⟨i017, hi017, _, hsz17, _⟩ := info_parts info3
     obtain ⟨A17, hcut17, hA17, hC17⟩ := print_drop_of (P := Try.prog) (Value.int .i64) 0 24 3 .i64 Try.underlying24 hi017 hsz17 (some ad152) c0 l0 x5_1 (Oa) (Oa) HC0.out
     have HR163 := jA (Kd.C_of_reads (h1 := fun _ => rfl) (hA17 _ (Kd.reads_of_C HR0.out)))
     have HC163 := jA hC17
     clear hA17 hC17 hi017 hsz17
     refine start_ (n := 12) (S := fun w' => True) (ds := []) #[false, false, false, false, false, false, false, false, false, false, false, false] (by kernel_rfl) rfl rfl trivial (fun hHeld => ?_); refine with_tabW spec_piPut.tab4 spec_piPut.bits4 (fun HT_ HW_ => ?_)
     generalize wr.drew = w15 at HB HR153 HR163 hHeld ⊢
     refine Pu 0 21 #[true, false, false, false, false, false, false, false, false, false, false, false] HT_.out ?_
     refine Pu 1 22 #[true, true, false, false, false, false, false, false, false, false, false, false] HT_.out ?_
     refine Pu 2 23 #[true, true, true, false, false, false, false, false, false, false, false, false] HT_.out ?_
     refine Pu 4 25 #[true, true, true, false, true, false, false, false, false, false, false, false] HT_.out ?_
     refine Pu 7 28 #[true, true, true, false, true, false, false, true, false, false, false, false] HT_.out ?_
     refine Pu 8 29 #[true, true, true, false, true, false, false, true, true, false, false, false] HT_.out ?_
     refine Pu 9 30 #[true, true, true, false, true, false, false, true, true, true, false, false] HT_.out ?_
     refine join_ (σ := Value × Value) 3 #[true, true, true, true, true, true, false, true, true, true, false, false] (fun s_ => [(24, s_.1), (26, s_.2)]) (fun s_ w' => (Kd.R (Kd.int .i64) 3 w' w.heap.size (fun k_ => some k_ ≠ (s_.2 : Value).ownBlock) s_.1 t154) ∧ (Kd.R (Kd.int .i64) 3 w' w.heap.size (fun k_ => some k_ ≠ (s_.1 : Value).ownBlock) s_.2 y157) ∧ (Below w.heap.size w w')) ?_ ?_
     rotate_left
     · intro hCont
       refine two_ (i := 3) (j := 5) (Ni := some 24) (Nj := some 26) #[true, true, true, true, true, false, false, true, true, true, false, false] #[true, true, true, false, true, true, false, true, true, true, false, false] rfl rfl rfl rfl (two_of HT_.out (by kernel_rfl)) (by decide) (by decide) (fun K hK => ?_) (fun K hK => ?_)
       · skip
         refine goes_ Try.func175 (by kernel_rfl) rfl #[.slice (some ad152) (l0.take (x5_1 : Int).toNat).length c0] (by rfl) rfl rfl (by (try simp only [List.map_toArray, List.map_cons, List.map_nil]); first | done | (rw [show (l0.take (x5_1 : Int).toNat).length = x5_1.toNat from (by rw [List.length_take]; have h_ : (x5_1 : Int) ≤ (l0.length : Int) := Oa; omega)] <;> rfl) | rfl | (simp only [List.length_drop, List.length_take]; rfl)) ?_
         with_reducible refine (spec_l1Own.calls _ _ (l0.take (x5_1 : Int).toNat) t154 _ ?side1 ?side2 A10.out).mono ?_
         (case side1 => repeat (first | exact (jY HR153.out HB.out) | (with_reducible refine Xc ?_)))
         (case side2 => exact HC153.out)
         rintro e w18 ⟨v155, rfl, ho0, hb⟩
         refine ⟨_, rfl, ?_⟩
         have HO156 := jA (jf ho0 (jL Ub)); replace HB := jA (jB Ub hb); (try clear hb); (try clear hb2); (try clear hk); (try clear hi); (try clear ho0)
         refine hK.out _ _ trivial (fun hHeld => ?_)
         clear hK K
         refine norm_ (a' := ?_) ?_ ?_
         rotate_left
         · show Act.put _ (some 24) _ = _
           simp only [Act.put, List.setIfInBounds_toArray, List.set_cons_zero, List.set_cons_succ, i64_w, i32_w]
           rfl
         refine one_ (i := 5) (N := some 26) #[true, true, true, true, true, true, false, true, true, true, false, false] rfl rfl (one_of HT_.out (by kernel_rfl)) (by decide) (fun K hK => ?_)
         refine Kd.R_lit_step (Kd.int .i64) _ 3 ?hg (N := 26) ?hd (xs := ([a1] : List Int)) (inner := [.int .i64 a1]) (ok := fun _ => True) (okp := fun _ => True) ?hr ?hp (fun _ hk => hk) trivial (jU _ _) (jX _) (by simp) ?_; (case hd => rfl); (case hg => rfl); (case hr => first | (go_simp; done) | (go_simp; rfl)); (case hp => exact (Reps.one (show Kd.M (Kd.int .i64) _ _ _ a1 [.int .i64 a1] from rfl) (Reps.none _ _)))
         intro v158 w19 ho20 hb hg_ hnew_
         clear hg_ hnew_
         (first | rw [← Ny157.out] at ho20 | (simp only [Int.reduceToNat] at ho20; rw [← Ny157.out] at ho20))
         have n0_ := jA (Kd.R_elder' (Rm HO156.out) (Kd.R_base ho20) hb); have n1_ := jA (jf (Kd.R_new' ho20 (jr (Rm HO156.out))) (jL Ub)); have n2_ := jA (jB Ub hb); clear HO156 HB; have HO156 := n0_; have HO159 := n1_; have HB := n2_; clear n0_ n1_ n2_ hb ho20
         refine hK.out _ _ trivial (fun hHeld => ?_)
         clear hK K
         refine norm_ (a' := ?_) ?_ ?_
         rotate_left
         · show Act.put _ (some 26) _ = _
           simp only [Act.put, List.setIfInBounds_toArray, List.set_cons_zero, List.set_cons_succ, i64_w, i32_w]
           rfl
         exact norm_ (by simp only [putAll, Act.put, List.setIfInBounds_toArray, List.set_cons_zero, List.set_cons_succ]) (hCont (v155, v158) _ ⟨(by (with_reducible repeat apply Xq); exact jW HO156.out (fun _ hk => hk.2)), (by (with_reducible repeat apply Xq); exact jW HO159.out (fun _ hk => hk.2)), Ub⟩)
       skip
       refine Kd.R_lit_step (Kd.int .i64) _ 3 ?hg (N := 26) ?hd (xs := ([a1] : List Int)) (inner := [.int .i64 a1]) (ok := fun _ => True) (okp := fun _ => True) ?hr ?hp (fun _ hk => hk) trivial (jU _ _) (jX _) (by simp) ?_; (case hd => rfl); (case hg => rfl); (case hr => first | (go_simp; done) | (go_simp; rfl)); (case hp => exact (Reps.one (show Kd.M (Kd.int .i64) _ _ _ a1 [.int .i64 a1] from rfl) (Reps.none _ _)))
       intro v158 w18 ho19 hb hg_ hnew_
       clear hg_ hnew_
       (first | rw [← Ny157.out] at ho19 | (simp only [Int.reduceToNat] at ho19; rw [← Ny157.out] at ho19))
       have n0_ := jA (jf ho19 (jL Ub)); have n1_ := jA (jB Ub hb); clear HB; have HO159 := n0_; have HB := n1_; clear n0_ n1_ hb ho19
       refine hK.out _ _ trivial (fun hHeld => ?_)
       clear hK K
       refine norm_ (a' := ?_) ?_ ?_
       rotate_left
       · show Act.put _ (some 26) _ = _
         simp only [Act.put, List.setIfInBounds_toArray, List.set_cons_zero, List.set_cons_succ, i64_w, i32_w]
         rfl
       refine one_ (i := 3) (N := some 24) #[true, true, true, true, true, true, false, true, true, true, false, false] rfl rfl (one_of HT_.out (by kernel_rfl)) (by decide) (fun K hK => ?_)
       refine goes_ Try.func175 (by kernel_rfl) rfl #[.slice (some ad152) (l0.take (x5_1 : Int).toNat).length c0] (by rfl) rfl rfl (by (try simp only [List.map_toArray, List.map_cons, List.map_nil]); first | done | (rw [show (l0.take (x5_1 : Int).toNat).length = x5_1.toNat from (by rw [List.length_take]; have h_ : (x5_1 : Int) ≤ (l0.length : Int) := Oa; omega)] <;> rfl) | rfl | (simp only [List.length_drop, List.length_take]; rfl)) ?_
       with_reducible refine (spec_l1Own.calls _ _ (l0.take (x5_1 : Int).toNat) t154 _ ?side1 ?side2 A10.out).mono ?_
       (case side1 => repeat (first | exact (jY HR153.out HB.out) | (with_reducible refine Xc ?_)))
       (case side2 => exact HC153.out)
       rintro e w20 ⟨v155, rfl, ho0, hb⟩
       refine ⟨_, rfl, ?_⟩
       have HO156 := jA (jf (Kd.R_new' ho0 (jr (Rm HO159.out))) (jL Ub)); replace HO159 := jA (Kd.R_elder' (Rm HO159.out) (Kd.R_base ho0) hb); replace HB := jA (jB Ub hb); (try clear hb); (try clear hb2); (try clear hk); (try clear hi); (try clear ho0)
       refine hK.out _ _ trivial (fun hHeld => ?_)
       clear hK K
       refine norm_ (a' := ?_) ?_ ?_
       rotate_left
       · show Act.put _ (some 24) _ = _
         simp only [Act.put, List.setIfInBounds_toArray, List.set_cons_zero, List.set_cons_succ, i64_w, i32_w]
         rfl
       exact norm_ (by simp only [putAll, Act.put, List.setIfInBounds_toArray, List.set_cons_zero, List.set_cons_succ]) (hCont (v155, v158) _ ⟨(by (with_reducible repeat apply Xq); exact jW HO156.out (fun _ hk => hk.2)), (by (with_reducible repeat apply Xq); exact jW HO159.out (fun _ hk => hk.2)), Ub⟩)
     rintro ⟨v155, v158⟩ w21 ⟨h0_, h1_, h2_⟩
     have n0_ : Aside0 (Kd.R (Kd.int .i64) 3 w21 w.heap.size (fun k_ => some k_ ≠ (v158 : Value).ownBlock) v155 t154) := ⟨h0_⟩
     have n1_ : Aside0 (Kd.R (Kd.int .i64) 3 w21 w.heap.size (fun k_ => some k_ ≠ (v155 : Value).ownBlock) v158 y157) := ⟨h1_⟩
     have n2_ : Aside0 (Below w.heap.size w w21) := ⟨h2_⟩
     clear HB; clear h0_ h1_ h2_; have HO156 := n0_; have HO159 := n1_; have HB := n2_; clear n0_ n1_ n2_
     have hHeld := trivial
     obtain ⟨Ao23, co23, eo23⟩ := jq HO159.out
     (first | subst eo23 | (injection eo23 with f1_ f2_ f3_; have f4_ := f1_.symm; have f5_ := f3_.symm; clear f1_ f2_ f3_; subst f4_; subst f5_))
     refine norm_ (a' := ?_) ?_ ?_
     rotate_left
     · simp only [putAll, Act.put, List.setIfInBounds_toArray, List.set_cons_zero, List.set_cons_succ]
       rfl
     refine one_ (i := 6) (N := some 27) #[true, true, true, true, true, true, true, true, true, true, false, false] rfl rfl (one_of HT_.out (by kernel_rfl)) (by decide) (fun K hK => ?_)
     refine Kd.R_append_rows_step (Kd.int .i64) (w0 := w) w.heap.size (by rfl) (.tmp 24) (.tmp 26) 24 3 (.int .i64 0) 8 rfl Try.underlying24 info3 rfl (by decide) (by omega) v155 t154 y157 _ _ _ (fun k_ => some k_ ≠ (.slice Ao23 y157.length co23 : Value).ownBlock) (fun _ => False) rfl rfl ?aO ?aR (fun _ _ h => h) (fun _ h => h.elim) ?aF ?aB ?aS ?aL ?_
     (case aR => repeat (first | exact (Kd.R_reads' HO159.out).2.2 | (with_reducible refine Xc ?_)))
     (case aB => exact Ub)
     (case aF => exact (fun k_ hk => Kd.fresh' (jr (Rm HO159.out)) k_ hk))
     (case aO => exact (Rm HO156.out))
     (case aS => exact (jL Ub))
     (case aL => have := LMc11.out; omega)
     intro v161 w22 ho hb hg hat
     rw [← Ny160.out] at ho
     have n0_ := jA (Kd.R_after (ok := (fun _ => True)) (by (with_reducible repeat apply Xq); exact jW HO159.out (fun _ hk => ⟨trivial, hk⟩)) hg hat); have n1_ := jA (hb); have n2_ := jA (ho); clear HO159 HB HO156; have HO159 := n0_; have HB := n1_; have HO162 := n2_; clear n0_ n1_ n2_ ho hb hg hat
     refine hK.out _ _ trivial (fun hHeld => ?_)
     clear hK K
     refine norm_ (a' := ?_) ?_ ?_
     rotate_left
     · show Act.put _ (some 27) _ = _
       simp only [Act.put, List.setIfInBounds_toArray, List.set_cons_zero, List.set_cons_succ, i64_w, i32_w]
       rfl
     refine one_ (i := 10) (N := some 31) #[true, true, true, true, true, true, true, true, true, true, true, false] rfl rfl (one_of HT_.out (by kernel_rfl)) (by decide) (fun K hK => ?_)
     refine Kd.R_append_rows_step (Kd.int .i64) (w0 := w) w.heap.size (by rfl) (.tmp 27) (.tmp 30) 24 3 (.int .i64 0) 8 rfl Try.underlying24 info3 rfl (by decide) (by omega) v161 y160 (l0.drop (x5_1 : Int).toNat) _ _ _ (fun k_ => some k_ ≠ (.slice Ao23 y157.length co23 : Value).ownBlock) (fun _ => False) rfl rfl ?aO ?aR (fun _ _ h => h) (fun _ h => h.elim) ?aF ?aB ?aS ?aL ?_
     (case aR => first | (rw [← show (l0.drop (x5_1 : Int).toNat).length = (l0.length - x5_1.toNat) from List.length_drop]; repeat (first | exact (jY HR163.out HB.out) | (with_reducible refine Xc ?_))) | (repeat (first | exact (jY HR163.out HB.out) | (with_reducible refine Xc ?_))))
     (case aB => exact Ub)
     (case aF => exact (fun k_ hk => Kd.fresh' (jr (Rm HO159.out)) k_ hk))
     (case aO => exact (Rm HO162.out))
     (case aS => exact (jL Ub))
     (case aL => have := LMc14.out; have hlx_ := (show (l0.drop (x5_1 : Int).toNat).length = (l0.length - x5_1.toNat) from List.length_drop); omega)
     intro v165 w24 ho hb hg hat
     rw [← Ny164.out] at ho
     have n0_ := jA (Kd.R_after (ok := (fun _ => True)) (Rm HO159.out) hg hat); have n1_ := jA (hb); have n2_ := jA (ho); clear HO159 HB HO162; have HO159 := n0_; have HB := n1_; have HO166 := n2_; clear n0_ n1_ n2_ ho hb hg hat
     refine hK.out _ _ trivial (fun hHeld => ?_)
     clear hK K
     refine norm_ (a' := ?_) ?_ ?_
     rotate_left
     · show Act.put _ (some 31) _ = _
       simp only [Act.put, List.setIfInBounds_toArray, List.set_cons_zero, List.set_cons_succ, i64_w, i32_w]
       rfl
     refine Pu 11 4 #[true, true, true, true, true, true, true, true, true, true, true, true] HT_.out ?_
     refine done_ (done_of HT_.out (by kernel_rfl)) ?_
     try go_wp2
     go_ret
     exact ⟨_, by first | rfl | (simp [errW_none, errW_some] <;> rfl) | (simp only [← hji4]; first | rfl | (simp [errW_none, errW_some] <;> rfl)) | (simp [*, errW_none, errW_some] <;> rfl), by (with_reducible repeat apply Xq); exact jW HO166.out (fun _ hk => trivial), Ub⟩
   have c3b0 : decide (0 < x5_1) = false := jV c3
   clear c3
   replace H := Ic H; rcases H with ⟨c25, H⟩ | ⟨c25, H⟩
   · have c25b0 := eq_true c25
     have c25b1 := jK c25
     clear c25
     replace H := Ip H; obtain ⟨c26, H⟩ := H
     have c26b0 := eq_true c26
     have c26b1 := jK c26
     clear c26
     replace H := jD H
     obtain ⟨t168, A270, H⟩ := H
     have A27 := jA A270
     clear A270
     obtain ⟨y171, hy171⟩ : ∃ y_ : List Int, y_ = (([a1] : List Int)) := ⟨_, rfl⟩
     replace H : (if t168.length + y171.length < 17592186044416 then ((some (t168 ++ y171 : List Int)).bind fun y174 => (if y174.length + (l0.drop (x5_1 : Int).toNat).length < 17592186044416 then (some (y174 ++ (l0.drop (x5_1 : Int).toNat))) else (none))) else (none)) = some r := by first | (rw [hy171]; with_reducible exact H) | (have H2_ := (Option.bind_some _ _).symm.trans H; rw [hy171]; with_reducible exact H2_) | (have H2_ := (Option.bind_some _ _).symm.trans H; with_reducible exact H2_) | with_reducible exact H | (rw [hy171]; exact H) | exact H
     have Ny171 := jA hy171
     clear hy171
     replace H := Ip H; obtain ⟨c28, H⟩ := H
     have LMc28 := jA c28
     clear c28
     obtain ⟨y174, hy174⟩ : ∃ y_ : List Int, y_ = (t168 ++ y171) := ⟨_, rfl⟩
     replace H : (if y174.length + (l0.drop (x5_1 : Int).toNat).length < 17592186044416 then (some (y174 ++ (l0.drop (x5_1 : Int).toNat))) else (none)) = some r := by first | (rw [hy174]; with_reducible exact H) | (have H2_ := (Option.bind_some _ _).symm.trans H; rw [hy174]; with_reducible exact H2_) | (have H2_ := (Option.bind_some _ _).symm.trans H; with_reducible exact H2_) | with_reducible exact H | (rw [hy174]; exact H) | exact H
     have Ny174 := jA hy174
     clear hy174
     have c29b0 := eq_true (Oa : 0 ≤ x5_1)
     have c30b0 := eq_true (Oa : x5_1 ≤ (l0.length : Int))
     replace H := Ip H; obtain ⟨c31, H⟩ := H
     have LMc31 := jA c31
     clear c31
     obtain ⟨y178, hy178⟩ : ∃ y_ : List Int, y_ = (y174 ++ (l0.drop (x5_1 : Int).toNat)) := ⟨_, rfl⟩
     replace H : (some y178) = some r := by first | (rw [hy178]; with_reducible exact H) | (have H2_ := (Option.bind_some _ _).symm.trans H; rw [hy178]; with_reducible exact H2_) | (have H2_ := (Option.bind_some _ _).symm.trans H; with_reducible exact H2_) | with_reducible exact H | (rw [hy178]; exact H) | exact H
     have Ny178 := jA hy178
     clear hy178
     obtain rfl := jM H
     try go_wp2
     replace HB := jA (jQ HB.out)
     obtain ⟨i033, hi033, _, hsz33, _⟩ := info_parts info3
     obtain ⟨hcut33, hA33, hC33⟩ := print_take_of (P := Try.prog) (Value.int .i64) 0 24 3 .i64 Try.underlying24 hi033 hsz33 A0 c0 l0 x5_1 (Oa) (Oa) HC0.out
     have HR167 := jA (Kd.C_of_reads (h1 := fun _ => rfl) (hA33 _ (Kd.reads_of_C HR0.out)))
     have HC167 := jA hC33
     clear hA33 hC33 hi033 hsz33
     obtain ⟨i034, hi034, _, hsz34, _⟩ := info_parts info3
     obtain ⟨A34, hcut34, hA34, hC34⟩ := print_drop_of (P := Try.prog) (Value.int .i64) 0 24 3 .i64 Try.underlying24 hi034 hsz34 A0 c0 l0 x5_1 (Oa) (Oa) HC0.out
     have HR177 := jA (Kd.C_of_reads (h1 := fun _ => rfl) (hA34 _ (Kd.reads_of_C HR0.out)))
     have HC177 := jA hC34
     clear hA34 hC34 hi034 hsz34
     refine start_ (n := 12) (S := fun w' => True) (ds := []) #[false, false, false, false, false, false, false, false, false, false, false, false] (by kernel_rfl) rfl rfl trivial (fun hHeld => ?_); refine with_tabW spec_piPut.tab4 spec_piPut.bits4 (fun HT_ HW_ => ?_)
     generalize wr.drew = w32 at HB HR167 HR177 hHeld ⊢
     refine Pu 0 21 #[true, false, false, false, false, false, false, false, false, false, false, false] HT_.out ?_
     refine Pu 1 22 #[true, true, false, false, false, false, false, false, false, false, false, false] HT_.out ?_
     refine Pu 2 23 #[true, true, true, false, false, false, false, false, false, false, false, false] HT_.out ?_
     refine Pu 4 25 #[true, true, true, false, true, false, false, false, false, false, false, false] HT_.out ?_
     refine Pu 7 28 #[true, true, true, false, true, false, false, true, false, false, false, false] HT_.out ?_
     refine Pu 8 29 #[true, true, true, false, true, false, false, true, true, false, false, false] HT_.out ?_
     refine Pu 9 30 #[true, true, true, false, true, false, false, true, true, true, false, false] HT_.out ?_
     refine join_ (σ := Value × Value) 3 #[true, true, true, true, true, true, false, true, true, true, false, false] (fun s_ => [(24, s_.1), (26, s_.2)]) (fun s_ w' => (Kd.R (Kd.int .i64) 3 w' w.heap.size (fun k_ => some k_ ≠ (s_.2 : Value).ownBlock) s_.1 t168) ∧ (Kd.R (Kd.int .i64) 3 w' w.heap.size (fun k_ => some k_ ≠ (s_.1 : Value).ownBlock) s_.2 y171) ∧ (Below w.heap.size w w')) ?_ ?_
     rotate_left
     · intro hCont
       refine two_ (i := 3) (j := 5) (Ni := some 24) (Nj := some 26) #[true, true, true, true, true, false, false, true, true, true, false, false] #[true, true, true, false, true, true, false, true, true, true, false, false] rfl rfl rfl rfl (two_of HT_.out (by kernel_rfl)) (by decide) (by decide) (fun K hK => ?_) (fun K hK => ?_)
       · skip
         refine goes_ Try.func175 (by kernel_rfl) rfl #[.slice A0 (l0.take (x5_1 : Int).toNat).length c0] (by rfl) rfl rfl (by (try simp only [List.map_toArray, List.map_cons, List.map_nil]); first | done | (rw [show (l0.take (x5_1 : Int).toNat).length = x5_1.toNat from (by rw [List.length_take]; have h_ : (x5_1 : Int) ≤ (l0.length : Int) := Oa; omega)] <;> rfl) | rfl | (simp only [List.length_drop, List.length_take]; rfl)) ?_
         with_reducible refine (spec_l1Own.calls _ _ (l0.take (x5_1 : Int).toNat) t168 _ ?side1 ?side2 A27.out).mono ?_
         (case side1 => repeat (first | exact (jY HR167.out HB.out) | (with_reducible refine Xc ?_)))
         (case side2 => exact HC167.out)
         rintro e w35 ⟨v169, rfl, ho0, hb⟩
         refine ⟨_, rfl, ?_⟩
         have HO170 := jA (jf ho0 (jL Ub)); replace HB := jA (jB Ub hb); (try clear hb); (try clear hb2); (try clear hk); (try clear hi); (try clear ho0)
         refine hK.out _ _ trivial (fun hHeld => ?_)
         clear hK K
         refine norm_ (a' := ?_) ?_ ?_
         rotate_left
         · show Act.put _ (some 24) _ = _
           simp only [Act.put, List.setIfInBounds_toArray, List.set_cons_zero, List.set_cons_succ, i64_w, i32_w]
           rfl
         refine one_ (i := 5) (N := some 26) #[true, true, true, true, true, true, false, true, true, true, false, false] rfl rfl (one_of HT_.out (by kernel_rfl)) (by decide) (fun K hK => ?_)
         refine Kd.R_lit_step (Kd.int .i64) _ 3 ?hg (N := 26) ?hd (xs := ([a1] : List Int)) (inner := [.int .i64 a1]) (ok := fun _ => True) (okp := fun _ => True) ?hr ?hp (fun _ hk => hk) trivial (jU _ _) (jX _) (by simp) ?_; (case hd => rfl); (case hg => rfl); (case hr => first | (go_simp; done) | (go_simp; rfl)); (case hp => exact (Reps.one (show Kd.M (Kd.int .i64) _ _ _ a1 [.int .i64 a1] from rfl) (Reps.none _ _)))
         intro v172 w36 ho37 hb hg_ hnew_
         clear hg_ hnew_
         (first | rw [← Ny171.out] at ho37 | (simp only [Int.reduceToNat] at ho37; rw [← Ny171.out] at ho37))
         have n0_ := jA (Kd.R_elder' (Rm HO170.out) (Kd.R_base ho37) hb); have n1_ := jA (jf (Kd.R_new' ho37 (jr (Rm HO170.out))) (jL Ub)); have n2_ := jA (jB Ub hb); clear HO170 HB; have HO170 := n0_; have HO173 := n1_; have HB := n2_; clear n0_ n1_ n2_ hb ho37
         refine hK.out _ _ trivial (fun hHeld => ?_)
         clear hK K
         refine norm_ (a' := ?_) ?_ ?_
         rotate_left
         · show Act.put _ (some 26) _ = _
           simp only [Act.put, List.setIfInBounds_toArray, List.set_cons_zero, List.set_cons_succ, i64_w, i32_w]
           rfl
         exact norm_ (by simp only [putAll, Act.put, List.setIfInBounds_toArray, List.set_cons_zero, List.set_cons_succ]) (hCont (v169, v172) _ ⟨(by (with_reducible repeat apply Xq); exact jW HO170.out (fun _ hk => hk.2)), (by (with_reducible repeat apply Xq); exact jW HO173.out (fun _ hk => hk.2)), Ub⟩)
       skip
       refine Kd.R_lit_step (Kd.int .i64) _ 3 ?hg (N := 26) ?hd (xs := ([a1] : List Int)) (inner := [.int .i64 a1]) (ok := fun _ => True) (okp := fun _ => True) ?hr ?hp (fun _ hk => hk) trivial (jU _ _) (jX _) (by simp) ?_; (case hd => rfl); (case hg => rfl); (case hr => first | (go_simp; done) | (go_simp; rfl)); (case hp => exact (Reps.one (show Kd.M (Kd.int .i64) _ _ _ a1 [.int .i64 a1] from rfl) (Reps.none _ _)))
       intro v172 w35 ho36 hb hg_ hnew_
       clear hg_ hnew_
       (first | rw [← Ny171.out] at ho36 | (simp only [Int.reduceToNat] at ho36; rw [← Ny171.out] at ho36))
       have n0_ := jA (jf ho36 (jL Ub)); have n1_ := jA (jB Ub hb); clear HB; have HO173 := n0_; have HB := n1_; clear n0_ n1_ hb ho36
       refine hK.out _ _ trivial (fun hHeld => ?_)
       clear hK K
       refine norm_ (a' := ?_) ?_ ?_
       rotate_left
       · show Act.put _ (some 26) _ = _
         simp only [Act.put, List.setIfInBounds_toArray, List.set_cons_zero, List.set_cons_succ, i64_w, i32_w]
         rfl
       refine one_ (i := 3) (N := some 24) #[true, true, true, true, true, true, false, true, true, true, false, false] rfl rfl (one_of HT_.out (by kernel_rfl)) (by decide) (fun K hK => ?_)
       refine goes_ Try.func175 (by kernel_rfl) rfl #[.slice A0 (l0.take (x5_1 : Int).toNat).length c0] (by rfl) rfl rfl (by (try simp only [List.map_toArray, List.map_cons, List.map_nil]); first | done | (rw [show (l0.take (x5_1 : Int).toNat).length = x5_1.toNat from (by rw [List.length_take]; have h_ : (x5_1 : Int) ≤ (l0.length : Int) := Oa; omega)] <;> rfl) | rfl | (simp only [List.length_drop, List.length_take]; rfl)) ?_
       with_reducible refine (spec_l1Own.calls _ _ (l0.take (x5_1 : Int).toNat) t168 _ ?side1 ?side2 A27.out).mono ?_
       (case side1 => repeat (first | exact (jY HR167.out HB.out) | (with_reducible refine Xc ?_)))
       (case side2 => exact HC167.out)
       rintro e w37 ⟨v169, rfl, ho0, hb⟩
       refine ⟨_, rfl, ?_⟩
       have HO170 := jA (jf (Kd.R_new' ho0 (jr (Rm HO173.out))) (jL Ub)); replace HO173 := jA (Kd.R_elder' (Rm HO173.out) (Kd.R_base ho0) hb); replace HB := jA (jB Ub hb); (try clear hb); (try clear hb2); (try clear hk); (try clear hi); (try clear ho0)
       refine hK.out _ _ trivial (fun hHeld => ?_)
       clear hK K
       refine norm_ (a' := ?_) ?_ ?_
       rotate_left
       · show Act.put _ (some 24) _ = _
         simp only [Act.put, List.setIfInBounds_toArray, List.set_cons_zero, List.set_cons_succ, i64_w, i32_w]
         rfl
       exact norm_ (by simp only [putAll, Act.put, List.setIfInBounds_toArray, List.set_cons_zero, List.set_cons_succ]) (hCont (v169, v172) _ ⟨(by (with_reducible repeat apply Xq); exact jW HO170.out (fun _ hk => hk.2)), (by (with_reducible repeat apply Xq); exact jW HO173.out (fun _ hk => hk.2)), Ub⟩)
     rintro ⟨v169, v172⟩ w38 ⟨h0_, h1_, h2_⟩
     have n0_ : Aside0 (Kd.R (Kd.int .i64) 3 w38 w.heap.size (fun k_ => some k_ ≠ (v172 : Value).ownBlock) v169 t168) := ⟨h0_⟩
     have n1_ : Aside0 (Kd.R (Kd.int .i64) 3 w38 w.heap.size (fun k_ => some k_ ≠ (v169 : Value).ownBlock) v172 y171) := ⟨h1_⟩
     have n2_ : Aside0 (Below w.heap.size w w38) := ⟨h2_⟩
     clear HB; clear h0_ h1_ h2_; have HO170 := n0_; have HO173 := n1_; have HB := n2_; clear n0_ n1_ n2_
     have hHeld := trivial
     obtain ⟨Ao40, co40, eo40⟩ := jq HO173.out
     (first | subst eo40 | (injection eo40 with f1_ f2_ f3_; have f4_ := f1_.symm; have f5_ := f3_.symm; clear f1_ f2_ f3_; subst f4_; subst f5_))
     refine norm_ (a' := ?_) ?_ ?_
     rotate_left
     · simp only [putAll, Act.put, List.setIfInBounds_toArray, List.set_cons_zero, List.set_cons_succ]
       rfl
     refine one_ (i := 6) (N := some 27) #[true, true, true, true, true, true, true, true, true, true, false, false] rfl rfl (one_of HT_.out (by kernel_rfl)) (by decide) (fun K hK => ?_)
     refine Kd.R_append_rows_step (Kd.int .i64) (w0 := w) w.heap.size (by rfl) (.tmp 24) (.tmp 26) 24 3 (.int .i64 0) 8 rfl Try.underlying24 info3 rfl (by decide) (by omega) v169 t168 y171 _ _ _ (fun k_ => some k_ ≠ (.slice Ao40 y171.length co40 : Value).ownBlock) (fun _ => False) rfl rfl ?aO ?aR (fun _ _ h => h) (fun _ h => h.elim) ?aF ?aB ?aS ?aL ?_
     (case aR => repeat (first | exact (Kd.R_reads' HO173.out).2.2 | (with_reducible refine Xc ?_)))
     (case aB => exact Ub)
     (case aF => exact (fun k_ hk => Kd.fresh' (jr (Rm HO173.out)) k_ hk))
     (case aO => exact (Rm HO170.out))
     (case aS => exact (jL Ub))
     (case aL => have := LMc28.out; omega)
     intro v175 w39 ho hb hg hat
     rw [← Ny174.out] at ho
     have n0_ := jA (Kd.R_after (ok := (fun _ => True)) (by (with_reducible repeat apply Xq); exact jW HO173.out (fun _ hk => ⟨trivial, hk⟩)) hg hat); have n1_ := jA (hb); have n2_ := jA (ho); clear HO173 HB HO170; have HO173 := n0_; have HB := n1_; have HO176 := n2_; clear n0_ n1_ n2_ ho hb hg hat
     refine hK.out _ _ trivial (fun hHeld => ?_)
     clear hK K
     refine norm_ (a' := ?_) ?_ ?_
     rotate_left
     · show Act.put _ (some 27) _ = _
       simp only [Act.put, List.setIfInBounds_toArray, List.set_cons_zero, List.set_cons_succ, i64_w, i32_w]
       rfl
     refine one_ (i := 10) (N := some 31) #[true, true, true, true, true, true, true, true, true, true, true, false] rfl rfl (one_of HT_.out (by kernel_rfl)) (by decide) (fun K hK => ?_)
     refine Kd.R_append_rows_step (Kd.int .i64) (w0 := w) w.heap.size (by rfl) (.tmp 27) (.tmp 30) 24 3 (.int .i64 0) 8 rfl Try.underlying24 info3 rfl (by decide) (by omega) v175 y174 (l0.drop (x5_1 : Int).toNat) _ _ _ (fun k_ => some k_ ≠ (.slice Ao40 y171.length co40 : Value).ownBlock) (fun _ => False) rfl rfl ?aO ?aR (fun _ _ h => h) (fun _ h => h.elim) ?aF ?aB ?aS ?aL ?_
     (case aR => first | (rw [← show (l0.drop (x5_1 : Int).toNat).length = (l0.length - x5_1.toNat) from List.length_drop]; repeat (first | exact (jY HR177.out HB.out) | (with_reducible refine Xc ?_))) | (repeat (first | exact (jY HR177.out HB.out) | (with_reducible refine Xc ?_))))
     (case aB => exact Ub)
     (case aF => exact (fun k_ hk => Kd.fresh' (jr (Rm HO173.out)) k_ hk))
     (case aO => exact (Rm HO176.out))
     (case aS => exact (jL Ub))
     (case aL => have := LMc31.out; have hlx_ := (show (l0.drop (x5_1 : Int).toNat).length = (l0.length - x5_1.toNat) from List.length_drop); omega)
     intro v179 w41 ho hb hg hat
     rw [← Ny178.out] at ho
     have n0_ := jA (Kd.R_after (ok := (fun _ => True)) (Rm HO173.out) hg hat); have n1_ := jA (hb); have n2_ := jA (ho); clear HO173 HB HO176; have HO173 := n0_; have HB := n1_; have HO180 := n2_; clear n0_ n1_ n2_ ho hb hg hat
     refine hK.out _ _ trivial (fun hHeld => ?_)
     clear hK K
     refine norm_ (a' := ?_) ?_ ?_
     rotate_left
     · show Act.put _ (some 31) _ = _
       simp only [Act.put, List.setIfInBounds_toArray, List.set_cons_zero, List.set_cons_succ, i64_w, i32_w]
       rfl
     refine Pu 11 4 #[true, true, true, true, true, true, true, true, true, true, true, true] HT_.out ?_
     refine done_ (done_of HT_.out (by kernel_rfl)) ?_
     try go_wp2
     go_ret
     exact ⟨_, Re, by (with_reducible repeat apply Xq); exact jW HO180.out (fun _ hk => trivial), Ub⟩
   exact absurd H (by simp)

/-! ### spec_l1Cur_hidden: function 213 -/
def spec_l1Cur_hidden.l0 : Nat → List Int → Int → List Int → Int → Int → Option (List Int × Int × Int)
 | 0, _, _, _, _, _ => none
 | k + 1, x3, x4, x1000, x1001, x1002 => if x4 > 0 then ((spec_l1Cur_pick.f x1000 x1001 x1002 6).bind fun bt184 => ((spec_piPut.f k x3 (wrap64 (1 + bt184.1))).bind fun t187 => (spec_l1Cur_hidden.l0 k t187 (wrap64 (x4 - 1)) x1000 bt184.2.1 bt184.2.2))) else ((spec_l1Cur_pick.f x1000 x1001 x1002 20).bind fun bt190 => (if bt190.1 = 0 then ((spec_l1Cur_among.f x1000 bt190.2.1 bt190.2.2 (([(-1), 0, 1, 6, 7, 4611686018427387904] : List Int))).bind fun bt196 => (if x3.length < 17592186044416 then (some ((x3 ++ [bt196.1]), bt196.2.1, bt196.2.2)) else (none))) else (if bt190.1 = 1 then ((some (([6, 6] : List Int) : List Int)).bind fun y202 => (if x3.length + y202.length < 17592186044416 then (some ((x3 ++ y202), bt190.2.1, bt190.2.2)) else (none))) else (some (x3, bt190.2.1, bt190.2.2)))))
def spec_l1Cur_hidden.f (k : Nat) (s0_0 : List Int) (s0_1 : Int) (s0_2 : Int) : Option (List Int × Int × Int) := (spec_l1Cur_pick.f s0_0 s0_1 s0_2 5).bind fun bt181 => (spec_l1Cur_hidden.l0 k ([] : List Int) bt181.1 s0_0 bt181.2.1 bt181.2.2)
theorem spec_l1Cur_hidden.calls (k : Nat) (g : Nat) (s0_0 : List Int) (s0_1 : Int) (s0_2 : Int) (r1 : List Int) (r2 : Int) (r3 : Int) (w0 w : World) (hI : IsS102 w0 w g s0_0 s0_1 s0_2) (hB : Below w0.heap.size w0 w) (h : spec_l1Cur_hidden.f k s0_0 s0_1 s0_2 = some (r1, r2, r3)) :
 Calls Try.prog 213 #[.pointer (some ⟨g, 0, none⟩)] w fun e w' => ∃ v0_ : Value, e = .returned (v0_) ∧ Kd.R (Kd.int .i64) 3 w' w.heap.size (fun _ => True) v0_ r1 ∧ IsS102 w0 w' g s0_0 r2 r3 ∧ Below w0.heap.size w0 w' ∧ KeepBut w w' g none := by
 have HI0 := jA hI
 have HK := jA (KeepBut.refl w g none)
 have HL := jA hB.size
 clear hI
 have HW0 := jA hB.size
 have HB := jA hB
 clear hB
 have H := h; unfold spec_l1Cur_hidden.f at H
 clear h
 replace H := jD H
 obtain ⟨⟨t181, t182, t183⟩, A20, H⟩ := H
 have A2 := jA A20
 clear A20
 have H' := jA H
 clear H
 go_enter Try.func213, Try.ntmps213
 go_wp2_with (first | (refine Gl 6 #[.pointer (some ⟨g, 0, none⟩), .int .i64 5] Try.func214 ?_; (with_reducible refine (spec_l1Cur_pick.calls g s0_0 s0_1 s0_2 5 t181 t182 t183 w0 _ ?side1 ?side2 A2.out).mono ?_); (case side1 => repeat (first | (with_reducible first | exact HI0.out | apply Xs | apply qG | apply qH) | exact HI0.out)); (case side2 => repeat (first | (with_reducible first | exact HB.out | apply Xa | refine jH ?_ (qE HI0.out)) | exact HB.out)); rintro e w3 ⟨rfl, hi, hb, hk⟩; refine ⟨_, rfl, ?_⟩; replace HK := jA (jS (by repeat (first | (with_reducible first | exact HK.out | apply jG | apply Xk) | exact HK.out)) hk (.inl rfl)); replace HB := jA (hb); replace HI0 := jA (hi); clear hb hk hi))
 go_loopg [3, 4] k (fun kq v3 v4 w' => ∃ (x3_1 : List Int) (x4_1 : Int) (x1001_1 : Int) (x1002_1 : Int), v4 = .int .i64 x4_1 ∧ Aside0 (spec_l1Cur_hidden.l0 kq x3_1 x4_1 s0_0 x1001_1 x1002_1 = some (r1, r2, r3)) ∧ Aside0 (kq ≤ k) ∧ Aside0 (Kd.R (Kd.int .i64) 3 w' w.heap.size (fun _ => True) v3 x3_1) ∧ Aside0 (IsS102 w0 w' g s0_0 x1001_1 x1002_1) ∧ Aside0 (KeepBut w w' g none) ∧ Aside0 (Below w0.heap.size w0 w'))
 case atStart => exact ⟨(([] : List Int)), (t181), (t182), (t183), Rs, H', ⟨jX _⟩, ⟨Nl⟩, ⟨by repeat (first | (with_reducible first | exact HI0.out | apply Xs | apply qG | apply qH) | exact HI0.out)⟩, ⟨by repeat (first | (with_reducible first | exact HK.out | apply jG | apply Xk) | exact HK.out)⟩, ⟨by repeat (first | (with_reducible first | exact HB.out | apply Xa | refine jH ?_ (qE HI0.out)) | exact HB.out)⟩⟩
 case round =>
  clear H'
  obtain ⟨x3_1, x4_1, x1001_1, x1002_1, rfl, HA, HK1, HO_3, HI0, HK, HB⟩ := hrel
  cases gk with
  | zero => exact absurd HA.out (by simp [spec_l1Cur_hidden.l0])
  | succ k1 =>
   have H := HA.out
   clear HA
   simp only [spec_l1Cur_hidden.l0] at H
   replace H := Ic H; rcases H with ⟨c4, H⟩ | ⟨c4, H⟩
   · have c4b0 : decide (0 < x4_1) = true := jK c4
     clear c4
     replace H := jD H
     obtain ⟨⟨t184, t185, t186⟩, A50, H⟩ := H
     have A5 := jA A50
     clear A50
     replace H := jD H
     obtain ⟨t187, A60, H⟩ := H
     have A6 := jA A60
     clear A60
     have H' := jA H
     clear H
     go_wp2_with (first | (refine Gl 13 #[.pointer (some ⟨g, 0, none⟩), .int .i64 6] Try.func214 ?_; (with_reducible refine (spec_l1Cur_pick.calls g s0_0 x1001_1 x1002_1 6 t184 t185 t186 w0 _ ?side1 ?side2 A5.out).mono ?_); (case side1 => repeat (first | (with_reducible first | exact HI0.out | apply Xs | apply qG | apply qH) | exact HI0.out)); (case side2 => repeat (first | (with_reducible first | exact HB.out | apply Xa | refine jH ?_ (qE HI0.out)) | exact HB.out)); rintro e w7 ⟨rfl, hi, hb, hk⟩; refine ⟨_, rfl, ?_⟩; replace HO_3 := jA (jW (jh (qB (show IsS102 w0 _ g s0_0 x1001_1 x1002_1 from by repeat (first | (with_reducible first | exact HI0.out | apply Xs | apply qG | apply qH) | exact HI0.out)) (Rm HO_3.out) (by decide)) hk (fun _ h => h.2)) (fun _ h => h.1)); replace HK := jA (jS (by repeat (first | (with_reducible first | exact HK.out | apply jG | apply Xk) | exact HK.out)) hk (.inl rfl)); replace HB := jA (hb); replace HI0 := jA (hi); clear hb hk hi; obtain ⟨Ao8, co8, eo8⟩ := jq HO_3.out; subst eo8) | (refine Gl 15 #[.slice Ao8 x3_1.length co8, .int .i64 (wrap64 (1 + t184))] Try.func283 ?_; (with_reducible refine (spec_piPut.calls k1 _ _ x3_1 (wrap64 (1 + t184)) t187 _ (Cm (Kd.R_reads' HO_3.out).2.2) ((Kd.R_reads' HO_3.out).2.1) A6.out).mono ?_); rintro e w9 ⟨v188, rfl, ho0, hb⟩; refine ⟨_, rfl, ?_⟩; have HO189 := jA (jf (Kd.R_new' ho0 (jr (Rm HO_3.out))) (je (w := w) (g := g) (row := none) (by repeat (first | (with_reducible first | exact HK.out | apply jG | apply Xk) | exact HK.out)))); replace HO_3 := jA (Kd.R_elder' (Rm HO_3.out) (Kd.R_base ho0) hb); replace HK := jA (jS (by repeat (first | (with_reducible first | exact HK.out | apply jG | apply Xk) | exact HK.out)) (jb hb g none) (.inl rfl)); replace HB := jA (jB (by repeat (first | (with_reducible first | exact HB.out | apply Xa | refine jH ?_ (qE HI0.out)) | exact HB.out)) hb); replace HI0 := jA (qA (by repeat (first | (with_reducible first | exact HI0.out | apply Xs | apply qG | apply qH) | exact HI0.out)) hb); clear hb ho0))
     go_roundg k1
     case measure => have := HK1.out; omega
     case rel => exact ⟨(t187), (wrap64 (x4_1 - 1)), (t185), (t186), Rs, H', ⟨by have := HK1.out; omega⟩, ⟨by (with_reducible repeat apply Xq); exact jW HO189.out (fun _ hk => trivial)⟩, ⟨by repeat (first | (with_reducible first | exact HI0.out | apply Xs | apply qG | apply qH) | exact HI0.out)⟩, ⟨by repeat (first | (with_reducible first | exact HK.out | apply jG | apply Xk) | exact HK.out)⟩, ⟨by repeat (first | (with_reducible first | exact HB.out | apply Xa | refine jH ?_ (qE HI0.out)) | exact HB.out)⟩⟩
   have c4b0 : decide (0 < x4_1) = false := jV c4
   clear c4
   replace H := jD H
   obtain ⟨⟨t190, t191, t192⟩, A100, H⟩ := H
   have A10 := jA A100
   clear A100
   replace H := Ic H; rcases H with ⟨c11, H⟩ | ⟨c11, H⟩
   · have c11b0 : (t190 == 0) = true := beq_iff_eq.mpr c11
     have c11b1 := bne_eq_false_iff_eq.mpr c11
     clear c11
     obtain ⟨y193, hy193⟩ : ∃ y_ : List Int, y_ = (([(-1), 0, 1, 6, 7, 4611686018427387904] : List Int)) := ⟨_, rfl⟩
     replace H : ((spec_l1Cur_among.f s0_0 t191 t192 y193).bind fun bt196 => (if x3_1.length < 17592186044416 then (some ((x3_1 ++ [bt196.1]), bt196.2.1, bt196.2.2)) else (none))) = some (r1, r2, r3) := by first | (rw [hy193]; with_reducible exact H) | (have H2_ := (Option.bind_some _ _).symm.trans H; rw [hy193]; with_reducible exact H2_) | (have H2_ := (Option.bind_some _ _).symm.trans H; with_reducible exact H2_) | with_reducible exact H | (rw [hy193]; exact H) | exact H
     have Ny193 := jA hy193
     clear hy193
     replace H := jD H
     obtain ⟨⟨t196, t197, t198⟩, A120, H⟩ := H
     have A12 := jA A120
     clear A120
     replace H := Ip H; obtain ⟨c13, H⟩ := H
     have LMc13 := jA c13
     clear c13
     obtain ⟨y199, hy199⟩ : ∃ y_ : List Int, y_ = (x3_1 ++ [t196]) := ⟨_, rfl⟩
     replace H : (some (y199, t197, t198)) = some (r1, r2, r3) := by first | (rw [hy199]; with_reducible exact H) | (have H2_ := (Option.bind_some _ _).symm.trans H; rw [hy199]; with_reducible exact H2_) | (have H2_ := (Option.bind_some _ _).symm.trans H; with_reducible exact H2_) | with_reducible exact H | (rw [hy199]; exact H) | exact H
     have Ny199 := jA hy199
     clear hy199
     simp only [Option.some.injEq, Prod.mk.injEq] at H
     obtain ⟨rfl, rfl, rfl⟩ := H
     go_wp2_with (first | (refine Gl 17 #[.pointer (some ⟨g, 0, none⟩), .int .i64 20] Try.func214 ?_; (with_reducible refine (spec_l1Cur_pick.calls g s0_0 x1001_1 x1002_1 20 t190 t191 t192 w0 _ ?side1 ?side2 A10.out).mono ?_); (case side1 => repeat (first | (with_reducible first | exact HI0.out | apply Xs | apply qG | apply qH) | exact HI0.out)); (case side2 => repeat (first | (with_reducible first | exact HB.out | apply Xa | refine jH ?_ (qE HI0.out)) | exact HB.out)); rintro e w14 ⟨rfl, hi, hb, hk⟩; refine ⟨_, rfl, ?_⟩; replace HO_3 := jA (jW (jh (qB (show IsS102 w0 _ g s0_0 x1001_1 x1002_1 from by repeat (first | (with_reducible first | exact HI0.out | apply Xs | apply qG | apply qH) | exact HI0.out)) (Rm HO_3.out) (by decide)) hk (fun _ h => h.2)) (fun _ h => h.1)); replace HK := jA (jS (by repeat (first | (with_reducible first | exact HK.out | apply jG | apply Xk) | exact HK.out)) hk (.inl rfl)); replace HB := jA (hb); replace HI0 := jA (hi); clear hb hk hi) | ((with_reducible refine gate_dst (N := 22) rfl ?_); refine Kd.R_lit (Kd.int .i64) _ 3 ?hg (N := 22) ?hd (xs := ([(-1), 0, 1, 6, 7, 4611686018427387904] : List Int)) (inner := [.int .i64 (-1), .int .i64 0, .int .i64 1, .int .i64 6, .int .i64 7, .int .i64 4611686018427387904]) (ok := fun _ => True) (okp := fun _ => True) ?hr ?hp (fun _ hk => hk) trivial (jU _ _) (jX _) (by simp) ?_; (case hd => rfl); (case hg => rfl); (case hr => first | (go_simp; done) | (go_simp; rfl)); (case hp => exact (Reps.one (show Kd.M (Kd.int .i64) _ _ _ (-1) [.int .i64 (-1)] from rfl) (Reps.one (show Kd.M (Kd.int .i64) _ _ _ 0 [.int .i64 0] from rfl) (Reps.one (show Kd.M (Kd.int .i64) _ _ _ 1 [.int .i64 1] from rfl) (Reps.one (show Kd.M (Kd.int .i64) _ _ _ 6 [.int .i64 6] from rfl) (Reps.one (show Kd.M (Kd.int .i64) _ _ _ 7 [.int .i64 7] from rfl) (Reps.one (show Kd.M (Kd.int .i64) _ _ _ 4611686018427387904 [.int .i64 4611686018427387904] from rfl) (Reps.none _ _)))))))); intro v194 w15 ho16 hb hg_ hnew_; clear hg_ hnew_; (first | rw [← Ny193.out] at ho16 | (simp only [Int.reduceToNat] at ho16; rw [← Ny193.out] at ho16)); have HO195 := jA (jf (Kd.R_new' ho16 (jr (Rm HO_3.out))) (je (w := w) (g := g) (row := none) (by repeat (first | (with_reducible first | exact HK.out | apply jG | apply Xk) | exact HK.out)))); replace HO_3 := jA (Kd.R_elder' (Rm HO_3.out) (Kd.R_base ho16) hb); replace HK := jA (jS (by repeat (first | (with_reducible first | exact HK.out | apply jG | apply Xk) | exact HK.out)) (jb hb g none) (.inl rfl)); replace HB := jA (jB (by repeat (first | (with_reducible first | exact HB.out | apply Xa | refine jH ?_ (qE HI0.out)) | exact HB.out)) hb); replace HI0 := jA (qA (by repeat (first | (with_reducible first | exact HI0.out | apply Xs | apply qG | apply qH) | exact HI0.out)) hb); clear hb ho16; obtain ⟨Ao17, co17, eo17⟩ := jq HO195.out; subst eo17) | (refine Gl 23 #[.pointer (some ⟨g, 0, none⟩), .slice Ao17 y193.length co17] Try.func192 ?_; (with_reducible refine (spec_l1Cur_among.calls g s0_0 t191 t192 _ _ y193 t196 t197 t198 w0 _ ?side1 ?side2 (Cm (Kd.R_reads' HO195.out).2.2) ((Kd.R_reads' HO195.out).2.1) ?side5 A12.out).mono ?_); (case side1 => repeat (first | (with_reducible first | exact HI0.out | apply Xs | apply qG | apply qH) | exact HI0.out)); (case side2 => repeat (first | (with_reducible first | exact HB.out | apply Xa | refine jH ?_ (qE HI0.out)) | exact HB.out)); (case side5 => exact far_slice (IsS102.own_ne HI0.out HO195.out (by decide))); rintro e w18 ⟨rfl, hi, hb, hk⟩; refine ⟨_, rfl, ?_⟩; replace HO_3 := jA (jW (jh (qB (show IsS102 w0 _ g s0_0 t191 t192 from by repeat (first | (with_reducible first | exact HI0.out | apply Xs | apply qG | apply qH) | exact HI0.out)) (Rm HO_3.out) (by decide)) hk (fun _ h => h.2)) (fun _ h => h.1)); replace HO195 := jA (jW (jh (qB (show IsS102 w0 _ g s0_0 t191 t192 from by repeat (first | (with_reducible first | exact HI0.out | apply Xs | apply qG | apply qH) | exact HI0.out)) (Rm HO195.out) (by decide)) hk (fun _ h => h.2)) (fun _ h => h.1)); replace HK := jA (jS (by repeat (first | (with_reducible first | exact HK.out | apply jG | apply Xk) | exact HK.out)) hk (.inl rfl)); replace HB := jA (hb); replace HI0 := jA (hi); clear hb hk hi) | ((with_reducible refine gate_builtin (b := .append) (xs := #[.tmp 20, .tmp 24]) rfl ?_); at_builtin; refine Kd.R_append (Kd.int .i64) w.heap.size rfl (.tmp 20) (.tmp 24) 24 3 (.int .i64 0) 8 rfl Try.underlying24 info3 rfl (by decide) (by omega) u3 x3_1 t196 [.int .i64 t196] (fun k_ => some k_ ≠ (.slice Ao17 y193.length co17 : Value).ownBlock) (fun _ => False) rfl rfl ?aP (fun _ hk => hk.elim) ?aF ?aO (jU _ _) ?aS ?aL ?_; (case aP => exact rfl); (case aF => exact (fun k_ hk => Kd.fresh' (jr (Rm HO195.out)) k_ hk)); (case aO => exact (by (with_reducible repeat apply Xq); exact jW HO_3.out (fun _ hk => hk.2))); (case aS => exact (je (w := w) (g := g) (row := none) (by repeat (first | (with_reducible first | exact HK.out | apply jG | apply Xk) | exact HK.out)))); (case aL => have := LMc13.out; omega); intro v200 w19 ho hb hg hat; rw [← Ny199.out] at ho; replace HO195 := jA (Kd.R_after (ok := (fun _ => True)) (Rm HO195.out) hg hat); replace HB := jA (below_weaken (by repeat (first | (with_reducible first | exact HB.out | apply Xa | refine jH ?_ (qE HI0.out)) | exact HB.out)) HL.out hb); replace HI0 := jA (IsS102.grown (by repeat (first | (with_reducible first | exact HI0.out | apply Xs | apply qG | apply qH) | exact HI0.out)) hg (IsS102.own_ne HI0.out HO_3.out (by decide))); replace HK := jA (jS (by repeat (first | (with_reducible first | exact HK.out | apply jG | apply Xk) | exact HK.out)) (KeepBut.of_grown hg g) (Kd.R_base2 HO_3.out)); have HO201 := jA (ho); clear HO_3; clear ho hb hg hat))
     go_ret
     exact ⟨_, Re, by (with_reducible repeat apply Xq); exact jW HO201.out (fun _ hk => trivial), by repeat (first | (with_reducible first | exact HI0.out | apply Xs | apply qG | apply qH) | exact HI0.out), by repeat (first | (with_reducible first | exact HB.out | apply Xa | refine jH ?_ (qE HI0.out)) | exact HB.out), by repeat (first | (with_reducible first | exact HK.out | apply jG | apply Xk) | exact HK.out)⟩
   have c11b0 : (t190 == 0) = false := beq_eq_false_iff_ne.mpr c11
   have c11b1 := bne_iff_ne.mpr c11
   replace H := Ic H; rcases H with ⟨c20, H⟩ | ⟨c20, H⟩
   · have c20b0 : (t190 == 1) = true := beq_iff_eq.mpr c20
     have c20b1 := bne_eq_false_iff_eq.mpr c20
     clear c20
     obtain ⟨y202, hy202⟩ : ∃ y_ : List Int, y_ = (([6, 6] : List Int)) := ⟨_, rfl⟩
     replace H : (if x3_1.length + y202.length < 17592186044416 then (some ((x3_1 ++ y202), t191, t192)) else (none)) = some (r1, r2, r3) := by first | (rw [hy202]; with_reducible exact H) | (have H2_ := (Option.bind_some _ _).symm.trans H; rw [hy202]; with_reducible exact H2_) | (have H2_ := (Option.bind_some _ _).symm.trans H; with_reducible exact H2_) | with_reducible exact H | (rw [hy202]; exact H) | exact H
     have Ny202 := jA hy202
     clear hy202
     replace H := Ip H; obtain ⟨c21, H⟩ := H
     have LMc21 := jA c21
     clear c21
     obtain ⟨y205, hy205⟩ : ∃ y_ : List Int, y_ = (x3_1 ++ y202) := ⟨_, rfl⟩
     replace H : (some (y205, t191, t192)) = some (r1, r2, r3) := by first | (rw [hy205]; with_reducible exact H) | (have H2_ := (Option.bind_some _ _).symm.trans H; rw [hy205]; with_reducible exact H2_) | (have H2_ := (Option.bind_some _ _).symm.trans H; with_reducible exact H2_) | with_reducible exact H | (rw [hy205]; exact H) | exact H
     have Ny205 := jA hy205
     clear hy205
     simp only [Option.some.injEq, Prod.mk.injEq] at H
     obtain ⟨rfl, rfl, rfl⟩ := H
     go_wp2_with (first | (refine Gl 17 #[.pointer (some ⟨g, 0, none⟩), .int .i64 20] Try.func214 ?_; (with_reducible refine (spec_l1Cur_pick.calls g s0_0 x1001_1 x1002_1 20 t190 t191 t192 w0 _ ?side1 ?side2 A10.out).mono ?_); (case side1 => repeat (first | (with_reducible first | exact HI0.out | apply Xs | apply qG | apply qH) | exact HI0.out)); (case side2 => repeat (first | (with_reducible first | exact HB.out | apply Xa | refine jH ?_ (qE HI0.out)) | exact HB.out)); rintro e w22 ⟨rfl, hi, hb, hk⟩; refine ⟨_, rfl, ?_⟩; replace HO_3 := jA (jW (jh (qB (show IsS102 w0 _ g s0_0 x1001_1 x1002_1 from by repeat (first | (with_reducible first | exact HI0.out | apply Xs | apply qG | apply qH) | exact HI0.out)) (Rm HO_3.out) (by decide)) hk (fun _ h => h.2)) (fun _ h => h.1)); replace HK := jA (jS (by repeat (first | (with_reducible first | exact HK.out | apply jG | apply Xk) | exact HK.out)) hk (.inl rfl)); replace HB := jA (hb); replace HI0 := jA (hi); clear hb hk hi) | ((with_reducible refine gate_dst (N := 29) rfl ?_); refine Kd.R_lit (Kd.int .i64) _ 3 ?hg (N := 29) ?hd (xs := ([6, 6] : List Int)) (inner := [.int .i64 6, .int .i64 6]) (ok := fun _ => True) (okp := fun _ => True) ?hr ?hp (fun _ hk => hk) trivial (jU _ _) (jX _) (by simp) ?_; (case hd => rfl); (case hg => rfl); (case hr => first | (go_simp; done) | (go_simp; rfl)); (case hp => exact (Reps.one (show Kd.M (Kd.int .i64) _ _ _ 6 [.int .i64 6] from rfl) (Reps.one (show Kd.M (Kd.int .i64) _ _ _ 6 [.int .i64 6] from rfl) (Reps.none _ _)))); intro v203 w23 ho24 hb hg_ hnew_; clear hg_ hnew_; (first | rw [← Ny202.out] at ho24 | (simp only [Int.reduceToNat] at ho24; rw [← Ny202.out] at ho24)); have HO204 := jA (jf (Kd.R_new' ho24 (jr (Rm HO_3.out))) (je (w := w) (g := g) (row := none) (by repeat (first | (with_reducible first | exact HK.out | apply jG | apply Xk) | exact HK.out)))); replace HO_3 := jA (Kd.R_elder' (Rm HO_3.out) (Kd.R_base ho24) hb); replace HK := jA (jS (by repeat (first | (with_reducible first | exact HK.out | apply jG | apply Xk) | exact HK.out)) (jb hb g none) (.inl rfl)); replace HB := jA (jB (by repeat (first | (with_reducible first | exact HB.out | apply Xa | refine jH ?_ (qE HI0.out)) | exact HB.out)) hb); replace HI0 := jA (qA (by repeat (first | (with_reducible first | exact HI0.out | apply Xs | apply qG | apply qH) | exact HI0.out)) hb); clear hb ho24; obtain ⟨Ao26, co26, eo26⟩ := jq HO204.out; subst eo26) | ((with_reducible refine gate_builtin (b := .append) (xs := #[.tmp 28, .tmp 29]) rfl ?_); at_builtin; refine Kd.R_append_rows (Kd.int .i64) w.heap.size rfl (.tmp 28) (.tmp 29) 24 3 (.int .i64 0) 8 rfl Try.underlying24 info3 rfl (by decide) (by omega) u3 x3_1 y202 _ _ _ (fun k_ => some k_ ≠ (.slice Ao26 y202.length co26 : Value).ownBlock) (fun _ => False) rfl rfl ?aO ?aR (fun _ _ h => h) (fun _ h => h.elim) ?aF (jU _ _) ?aS ?aL ?_; (case aR => repeat (first | exact (Kd.R_reads' HO204.out).2.2 | (with_reducible refine Xc ?_))); (case aF => exact (fun k_ hk => Kd.fresh' (jr (Rm HO204.out)) k_ hk)); (case aO => exact (by (with_reducible repeat apply Xq); exact jW HO_3.out (fun _ hk => hk.2))); (case aS => exact (je (w := w) (g := g) (row := none) (by repeat (first | (with_reducible first | exact HK.out | apply jG | apply Xk) | exact HK.out)))); (case aL => have := LMc21.out; omega); intro v206 w25 ho hb hg hat; rw [← Ny205.out] at ho; replace HO204 := jA (Kd.R_after (ok := (fun _ => True)) (Rm HO204.out) hg hat); replace HB := jA (below_weaken (by repeat (first | (with_reducible first | exact HB.out | apply Xa | refine jH ?_ (qE HI0.out)) | exact HB.out)) HL.out hb); replace HI0 := jA (IsS102.grown (by repeat (first | (with_reducible first | exact HI0.out | apply Xs | apply qG | apply qH) | exact HI0.out)) hg (IsS102.own_ne HI0.out HO_3.out (by decide))); replace HK := jA (jS (by repeat (first | (with_reducible first | exact HK.out | apply jG | apply Xk) | exact HK.out)) (KeepBut.of_grown hg g) (Kd.R_base2 HO_3.out)); have HO207 := jA (ho); clear HO_3; clear ho hb hg hat))
     go_ret
     exact ⟨_, Re, by (with_reducible repeat apply Xq); exact jW HO207.out (fun _ hk => trivial), by repeat (first | (with_reducible first | exact HI0.out | apply Xs | apply qG | apply qH) | exact HI0.out), by repeat (first | (with_reducible first | exact HB.out | apply Xa | refine jH ?_ (qE HI0.out)) | exact HB.out), by repeat (first | (with_reducible first | exact HK.out | apply jG | apply Xk) | exact HK.out)⟩
   have c20b0 : (t190 == 1) = false := beq_eq_false_iff_ne.mpr c20
   have c20b1 := bne_iff_ne.mpr c20
   simp only [Option.some.injEq, Prod.mk.injEq] at H
   obtain ⟨rfl, rfl, rfl⟩ := H
   go_wp2_with (first | (refine Gl 17 #[.pointer (some ⟨g, 0, none⟩), .int .i64 20] Try.func214 ?_; (with_reducible refine (spec_l1Cur_pick.calls g s0_0 x1001_1 x1002_1 20 t190 t191 t192 w0 _ ?side1 ?side2 A10.out).mono ?_); (case side1 => repeat (first | (with_reducible first | exact HI0.out | apply Xs | apply qG | apply qH) | exact HI0.out)); (case side2 => repeat (first | (with_reducible first | exact HB.out | apply Xa | refine jH ?_ (qE HI0.out)) | exact HB.out)); rintro e w27 ⟨rfl, hi, hb, hk⟩; refine ⟨_, rfl, ?_⟩; replace HO_3 := jA (jW (jh (qB (show IsS102 w0 _ g s0_0 x1001_1 x1002_1 from by repeat (first | (with_reducible first | exact HI0.out | apply Xs | apply qG | apply qH) | exact HI0.out)) (Rm HO_3.out) (by decide)) hk (fun _ h => h.2)) (fun _ h => h.1)); replace HK := jA (jS (by repeat (first | (with_reducible first | exact HK.out | apply jG | apply Xk) | exact HK.out)) hk (.inl rfl)); replace HB := jA (hb); replace HI0 := jA (hi); clear hb hk hi))
   go_ret
   exact ⟨_, Re, Rm HO_3.out, by repeat (first | (with_reducible first | exact HI0.out | apply Xs | apply qG | apply qH) | exact HI0.out), by repeat (first | (with_reducible first | exact HB.out | apply Xa | refine jH ?_ (qE HI0.out)) | exact HB.out), by repeat (first | (with_reducible first | exact HK.out | apply jG | apply Xk) | exact HK.out)⟩

end Go.Proofs.Ytgeoihhibglhgaa.PFnPiecesHidden
