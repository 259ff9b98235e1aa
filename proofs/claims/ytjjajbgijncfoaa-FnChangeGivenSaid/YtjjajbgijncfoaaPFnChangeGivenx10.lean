-- MADE FOR THIS CLAIM by wip/xp/xprint.py (with the kit's print; some functions' contracts proved by hand)
import Derived.Test.YtjjajbgijncfoaaPFnChangeGivenx0
import Derived.Test.YtjjajbgijncfoaaPFnChangeGivenx1
import Derived.Test.YtjjajbgijncfoaaPFnChangeGivenx2
import Derived.Test.YtjjajbgijncfoaaPFnChangeGivenx3
import Derived.Test.YtjjajbgijncfoaaPFnChangeGivenx5
import Derived.Test.YtjjajbgijncfoaaPFnChangeGivenx7
import Derived.Test.YtjjajbgijncfoaaPFnChangeGivenx8
set_option maxHeartbeats 8000000
set_option maxRecDepth 100000
namespace Go.Proofs.Ytjjajbgijncfoaa.PFnChangeGiven
open Go.RowKit Go.Proofs.YtjjajbgijncfoaaW.PrintWords Go.Proofs.YtjjajbgijncfoaaW.PrintLast Go.Proofs.YtjjajbgijncfoaaW.PrintMore Go.Proofs.Ytjjajbgijncfoaa.Xmv
attribute [local go_sem] max2_int min2_int max_two min_two max_three min_three max_four min_four   -- for this text's walks alone
set_option linter.unusedVariables false
set_option linter.unusedSimpArgs false

/-! ### impl_failures: function 109 -/
def impl_failures.l0 : Nat → List Int → Int → List Int → List Int → Int → Int → Option (List Int)
 | 0, _, _, _, _, _, _ => none
 | k + 1, x0, x1, x5, x13, x14, x15 => if x15 < x14 then (if 0 ≤ x15 then (if x15 < (x13.length : Int) then (if (rd x13 x15) > x1 then (impl_failures.l0 k x0 x1 x5 x13 x14 (wrap64 (x15 + 1))) else ((impl_greedy.f x0 x15).bind fun bt392 => (if bt392.2 = true then ((impl_total.f k bt392.1).bind fun t396 => (if t396 > (rd x13 x15) then (if x5.length < 17592186044416 then (impl_failures.l0 k x0 x1 (x5 ++ [x15]) x13 x14 (wrap64 (x15 + 1))) else (none)) else (impl_failures.l0 k x0 x1 x5 x13 x14 (wrap64 (x15 + 1))))) else (if x5.length < 17592186044416 then (impl_failures.l0 k x0 x1 (x5 ++ [x15]) x13 x14 (wrap64 (x15 + 1))) else (none))))) else (none)) else (none)) else (some x5)
def impl_failures.f (k : Nat) (l0 : List Int) (a1 : Int) : Option (List Int) := (impl_fewStamps.f k l0 a1).bind fun t388 => (impl_failures.l0 k l0 a1 (([] : List Int)) t388 (t388.length : Int) 0)
theorem impl_failures.calls (k : Nat) (A0 : Option Addr) (c0 : Nat) (l0 : List Int) (a1 : Int) (r : List Int) (w : World) (hr0 : Kd.C (Kd.int .i64) w A0 l0.length l0) (hc0 : l0.length ≤ c0) (h : impl_failures.f k l0 a1 = some r) :
 Calls Try.prog 109 #[.slice A0 l0.length c0, .int .i64 a1] w fun e w' => ∃ v0_ : Value, e = .returned (v0_) ∧ Kd.R (Kd.int .i64) 3 w' w.heap.size (fun _ => True) v0_ r ∧ Below w.heap.size w w' := by
 have HR0 := Aside0.mk hr0
 have HC0 := Aside0.mk hc0
 clear hr0 hc0
 have HB := Aside0.mk (Below.refl w.heap.size w)
 have H := h; unfold impl_failures.f at H
 clear h
 obtain ⟨y385, hy385⟩ : ∃ y_ : List Int, y_ = (([] : List Int)) := ⟨_, rfl⟩
 replace H : ((impl_fewStamps.f k l0 a1).bind fun t388 => (impl_failures.l0 k l0 a1 y385 t388 (t388.length : Int) 0)) = some r := by first | (rw [hy385]; with_reducible exact H) | (have H2_ := (Option.bind_some _ _).symm.trans H; rw [hy385]; with_reducible exact H2_) | (have H2_ := (Option.bind_some _ _).symm.trans H; with_reducible exact H2_) | with_reducible exact H | (rw [hy385]; exact H) | exact H
 have Ny385 := Aside0.mk hy385
 clear hy385
 replace H := Option.bind_eq_some_iff.mp H
 obtain ⟨t388, A30, H⟩ := H
 have A3 := Aside0.mk A30
 clear A30
 have H' := Aside0.mk H
 clear H
 go_enter Try.func109, Try.ntmps109
 go_wp2_with (first | ((with_reducible refine gate_dst (N := 10) rfl ?_); refine Kd.R_lit (Kd.int .i64) _ 3 ?hg (N := 10) ?hd (xs := ([] : List Int)) (inner := []) (ok := fun _ => True) (okp := fun _ => True) ?hr ?hp (fun _ hk => hk) trivial (Below.refl _ _) (Nat.le_refl _) (by simp) ?_; (case hd => rfl); (case hg => rfl); (case hr => first | (go_simp; done) | (go_simp; rfl)); (case hp => exact (Reps.none _ _)); intro v386 w4 ho5 hb hg_ hnew_; clear hg_ hnew_; (first | rw [← Ny385.out] at ho5 | (simp only [Int.reduceToNat] at ho5; rw [← Ny385.out] at ho5)); have HO387 := Aside0.mk (Kd.R_lower ho5 (below_size Ub)); replace HB := Aside0.mk (below_step Ub hb); clear hb ho5) | (refine Gl 13 #[.slice A0 l0.length c0, .int .i64 a1] Try.func95 ?_; (with_reducible refine (impl_fewStamps.calls k _ _ l0 a1 t388 _ (Cm (Kd.C_below HR0.out HB.out)) HC0.out A3.out).mono ?_); rintro e w6 ⟨v389, rfl, ho0, hb⟩; refine ⟨_, rfl, ?_⟩; have HO390 := Aside0.mk (Kd.R_lower (Kd.R_new' ho0 (Kd.R_lt (Rm HO387.out))) (below_size Ub)); replace HO387 := Aside0.mk (Kd.R_elder' (Rm HO387.out) (Kd.R_base ho0) hb); replace HB := Aside0.mk (below_step Ub hb); clear hb ho0; obtain ⟨Ao7, co7, eo7⟩ := Kd.R_slice HO390.out; subst eo7))
 go_loopg [5, 15] k (fun kq v5 v15 w' => ∃ (x5_1 : List Int) (x15_1 : Int), v15 = .int .i64 x15_1 ∧ Aside0 (impl_failures.l0 kq l0 a1 x5_1 t388 (t388.length : Int) x15_1 = some r) ∧ Aside0 (kq ≤ k) ∧ Aside0 (Kd.R (Kd.int .i64) 3 w' w.heap.size (fun k_ => some k_ ≠ ((.slice Ao7 t388.length co7) : Value).ownBlock) v5 x5_1) ∧ Aside0 (Kd.R (Kd.int .i64) 3 w' w.heap.size (fun k_ => some k_ ≠ (v5 : Value).ownBlock) (.slice Ao7 t388.length co7) t388) ∧ Aside0 (Below w.heap.size w w'))
 case atStart => exact ⟨(y385), (0), Rs, H', ⟨Nat.le_refl _⟩, ⟨by (with_reducible repeat (first | apply Kd.R_alloc | apply Kd.R_drewN | apply Kd.R_drew)); exact Kd.R_mono HO387.out (fun _ hk => hk.2)⟩, ⟨by (with_reducible repeat (first | apply Kd.R_alloc | apply Kd.R_drewN | apply Kd.R_drew)); exact Kd.R_mono HO390.out (fun _ hk => hk.2)⟩, ⟨Ub⟩⟩
 case round =>
  clear H'
  obtain ⟨x5_1, x15_1, rfl, HA, HK1, HO_5, HO_13, HB⟩ := hrel
  cases gk with
  | zero => exact absurd HA.out (by simp [impl_failures.l0])
  | succ k1 =>
   have H := HA.out
   clear HA
   simp only [impl_failures.l0] at H
   replace H := Ic H; rcases H with ⟨c8, H⟩ | ⟨c8, H⟩
   · have c8b0 := decide_eq_true c8
     clear c8
     replace H := Ip H; obtain ⟨c9, H⟩ := H
     have c9b0 := decide_eq_true c9
     clear c9
     replace H := Ip H; obtain ⟨c10, H⟩ := H
     have c10b0 := decide_eq_true c10
     clear c10
     replace H := Ic H; rcases H with ⟨c11, H⟩ | ⟨c11, H⟩
     · have c11b0 : decide (a1 < (rd t388 x15_1)) = true := decide_eq_true c11
       clear c11
       have H' := Aside0.mk H
       clear H
       obtain ⟨p391, q391, ad391, e391, hx391_0⟩ := Ai (Kd.R_reads' HO_13.out).2.2 x15_1
       cases e391
       go_wp2
       go_roundg k1
       case measure => have := HK1.out; omega
       case rel => exact ⟨(x5_1), (wrap64 (x15_1 + 1)), Rs, H', ⟨by have := HK1.out; omega⟩, ⟨Rm HO_5.out⟩, ⟨Rm HO_13.out⟩, ⟨Ub⟩⟩
     have c11b0 : decide (a1 < (rd t388 x15_1)) = false := decide_eq_false c11
     clear c11
     replace H := Option.bind_eq_some_iff.mp H
     obtain ⟨⟨t392, t393⟩, A120, H⟩ := H
     have A12 := Aside0.mk A120
     clear A120
     replace H := Iw H; rcases H with ⟨rfl, H⟩ | ⟨rfl, H⟩
     · replace H := Option.bind_eq_some_iff.mp H
       obtain ⟨t396, A140, H⟩ := H
       have A14 := Aside0.mk A140
       clear A140
       replace H := Ic H; rcases H with ⟨c15, H⟩ | ⟨c15, H⟩
       · have c15b0 : decide ((rd t388 x15_1) < t396) = true := decide_eq_true c15
         clear c15
         replace H := Ip H; obtain ⟨c16, H⟩ := H
         have LMc16 := Aside0.mk c16
         clear c16
         obtain ⟨y397, hy397⟩ : ∃ y_ : List Int, y_ = (x5_1 ++ [x15_1]) := ⟨_, rfl⟩
         replace H : (impl_failures.l0 k1 l0 a1 y397 t388 (t388.length : Int) (wrap64 (x15_1 + 1))) = some r := by first | (rw [hy397]; with_reducible exact H) | (have H2_ := (Option.bind_some _ _).symm.trans H; rw [hy397]; with_reducible exact H2_) | (have H2_ := (Option.bind_some _ _).symm.trans H; with_reducible exact H2_) | with_reducible exact H | (rw [hy397]; exact H) | exact H
         have Ny397 := Aside0.mk hy397
         clear hy397
         have H' := Aside0.mk H
         clear H
         obtain ⟨p391, q391, ad391, e391, hx391_0⟩ := Ai (Kd.R_reads' HO_13.out).2.2 x15_1
         cases e391
         go_wp2_with (first | (refine Gl 26 #[.slice A0 l0.length c0, .int .i64 x15_1] Try.func100 ?_; (with_reducible refine (impl_greedy.calls _ _ l0 x15_1 t392 true _ (Cm (Kd.C_below HR0.out HB.out)) HC0.out A12.out).mono ?_); rintro e w17 ⟨v394, rfl, ho0, hb⟩; refine ⟨_, rfl, ?_⟩; have HO395 := Aside0.mk (Kd.R_lower (Kd.R_new' (Kd.R_new' ho0 (Kd.R_lt (Rm HO_5.out))) (Kd.R_lt (Rm HO_13.out))) (below_size Ub)); replace HO_5 := Aside0.mk (Kd.R_elder' (Rm HO_5.out) (Kd.R_base ho0) hb); replace HO_13 := Aside0.mk (Kd.R_elder' (Rm HO_13.out) (Kd.R_base ho0) hb); replace HB := Aside0.mk (below_step Ub hb); clear hb ho0; obtain ⟨Ao18, co18, eo18⟩ := Kd.R_slice HO395.out; subst eo18) | (go_at_call 102; (with_reducible refine (impl_total.calls k1 _ _ t392 t396 _ (Cm (Kd.R_reads' HO395.out).2.2) ((Kd.R_reads' HO395.out).2.1) A14.out).mono ?_); rintro e w' ⟨rfl, ⟨nd, rfl⟩⟩) | ((with_reducible refine gate_builtin (b := .append) (xs := #[.tmp 37, .tmp 39]) rfl ?_); at_builtin; refine Kd.R_append (Kd.int .i64) (w0 := w) w.heap.size rfl (.tmp 37) (.tmp 39) 24 3 (.int .i64 0) 8 rfl Try.underlying24 info3 rfl (by decide) (by omega) u5 x5_1 x15_1 [.int .i64 x15_1] (fun k_ => some k_ ≠ (.slice (some ad391) t388.length co7 : Value).ownBlock ∧ some k_ ≠ (.slice Ao18 t392.length co18 : Value).ownBlock) (fun _ => False) rfl rfl ?aP (fun _ hk => hk.elim) ?aF ?aO ?aB ?aS ?aL ?_; (case aP => exact rfl); (case aB => exact Ub); (case aF => exact (fun k_ hk => ⟨Kd.fresh' (Kd.R_lt (Rm HO_13.out)) k_ hk, Kd.fresh' (Kd.R_lt (Rm HO395.out)) k_ hk⟩)); (case aO => exact (Rm HO_5.out)); (case aS => exact (below_size Ub)); (case aL => have := LMc16.out; omega); intro v398 w19 ho hb hg hat; rw [← Ny397.out] at ho; replace HO_13 := Aside0.mk (Kd.R_after (ok := (fun k_ => some k_ ≠ (.slice Ao18 t392.length co18 : Value).ownBlock)) (by (with_reducible repeat (first | apply Kd.R_alloc | apply Kd.R_drewN | apply Kd.R_drew)); exact Kd.R_mono HO_13.out (fun _ hk => ⟨hk.2, hk.1⟩)) hg hat); replace HO395 := Aside0.mk (Kd.R_after (ok := (fun k_ => some k_ ≠ (.slice (some ad391) t388.length co7 : Value).ownBlock)) (by (with_reducible repeat (first | apply Kd.R_alloc | apply Kd.R_drewN | apply Kd.R_drew)); exact Kd.R_mono HO395.out (fun _ hk => ⟨hk.2, hk.1.2⟩)) hg hat); replace HB := Aside0.mk (hb); have HO399 := Aside0.mk (ho); clear HO_5; clear ho hb hg hat))
         go_roundg k1
         case measure => have := HK1.out; omega
         case rel => exact ⟨(y397), (wrap64 (x15_1 + 1)), Rs, H', ⟨by have := HK1.out; omega⟩, ⟨by (with_reducible repeat (first | apply Kd.R_alloc | apply Kd.R_drewN | apply Kd.R_drew)); exact Kd.R_mono HO399.out (fun _ hk => hk.1)⟩, ⟨by (with_reducible repeat (first | apply Kd.R_alloc | apply Kd.R_drewN | apply Kd.R_drew)); exact Kd.R_mono HO_13.out (fun _ hk => hk.2)⟩, ⟨Ub⟩⟩
       have c15b0 : decide ((rd t388 x15_1) < t396) = false := decide_eq_false c15
       clear c15
       have H' := Aside0.mk H
       clear H
       obtain ⟨p391, q391, ad391, e391, hx391_0⟩ := Ai (Kd.R_reads' HO_13.out).2.2 x15_1
       cases e391
       go_wp2_with (first | (refine Gl 26 #[.slice A0 l0.length c0, .int .i64 x15_1] Try.func100 ?_; (with_reducible refine (impl_greedy.calls _ _ l0 x15_1 t392 true _ (Cm (Kd.C_below HR0.out HB.out)) HC0.out A12.out).mono ?_); rintro e w20 ⟨v394, rfl, ho0, hb⟩; refine ⟨_, rfl, ?_⟩; have HO395 := Aside0.mk (Kd.R_lower (Kd.R_new' (Kd.R_new' ho0 (Kd.R_lt (Rm HO_5.out))) (Kd.R_lt (Rm HO_13.out))) (below_size Ub)); replace HO_5 := Aside0.mk (Kd.R_elder' (Rm HO_5.out) (Kd.R_base ho0) hb); replace HO_13 := Aside0.mk (Kd.R_elder' (Rm HO_13.out) (Kd.R_base ho0) hb); replace HB := Aside0.mk (below_step Ub hb); clear hb ho0; obtain ⟨Ao21, co21, eo21⟩ := Kd.R_slice HO395.out; subst eo21) | (go_at_call 102; (with_reducible refine (impl_total.calls k1 _ _ t392 t396 _ (Cm (Kd.R_reads' HO395.out).2.2) ((Kd.R_reads' HO395.out).2.1) A14.out).mono ?_); rintro e w' ⟨rfl, ⟨nd, rfl⟩⟩))
       go_roundg k1
       case measure => have := HK1.out; omega
       case rel => exact ⟨(x5_1), (wrap64 (x15_1 + 1)), Rs, H', ⟨by have := HK1.out; omega⟩, ⟨by (with_reducible repeat (first | apply Kd.R_alloc | apply Kd.R_drewN | apply Kd.R_drew)); exact Kd.R_mono HO_5.out (fun _ hk => hk.1)⟩, ⟨by (with_reducible repeat (first | apply Kd.R_alloc | apply Kd.R_drewN | apply Kd.R_drew)); exact Kd.R_mono HO_13.out (fun _ hk => hk.1)⟩, ⟨Ub⟩⟩
     replace H := Ip H; obtain ⟨c22, H⟩ := H
     have LMc22 := Aside0.mk c22
     clear c22
     obtain ⟨y400, hy400⟩ : ∃ y_ : List Int, y_ = (x5_1 ++ [x15_1]) := ⟨_, rfl⟩
     replace H : (impl_failures.l0 k1 l0 a1 y400 t388 (t388.length : Int) (wrap64 (x15_1 + 1))) = some r := by first | (rw [hy400]; with_reducible exact H) | (have H2_ := (Option.bind_some _ _).symm.trans H; rw [hy400]; with_reducible exact H2_) | (have H2_ := (Option.bind_some _ _).symm.trans H; with_reducible exact H2_) | with_reducible exact H | (rw [hy400]; exact H) | exact H
     have Ny400 := Aside0.mk hy400
     clear hy400
     have H' := Aside0.mk H
     clear H
     obtain ⟨p391, q391, ad391, e391, hx391_0⟩ := Ai (Kd.R_reads' HO_13.out).2.2 x15_1
     cases e391
     go_wp2_with (first | (refine Gl 26 #[.slice A0 l0.length c0, .int .i64 x15_1] Try.func100 ?_; (with_reducible refine (impl_greedy.calls _ _ l0 x15_1 t392 false _ (Cm (Kd.C_below HR0.out HB.out)) HC0.out A12.out).mono ?_); rintro e w23 ⟨v394, rfl, ho0, hb⟩; refine ⟨_, rfl, ?_⟩; have HO395 := Aside0.mk (Kd.R_lower (Kd.R_new' (Kd.R_new' ho0 (Kd.R_lt (Rm HO_5.out))) (Kd.R_lt (Rm HO_13.out))) (below_size Ub)); replace HO_5 := Aside0.mk (Kd.R_elder' (Rm HO_5.out) (Kd.R_base ho0) hb); replace HO_13 := Aside0.mk (Kd.R_elder' (Rm HO_13.out) (Kd.R_base ho0) hb); replace HB := Aside0.mk (below_step Ub hb); clear hb ho0) | ((with_reducible refine gate_builtin (b := .append) (xs := #[.tmp 37, .tmp 39]) rfl ?_); at_builtin; refine Kd.R_append (Kd.int .i64) (w0 := w) w.heap.size rfl (.tmp 37) (.tmp 39) 24 3 (.int .i64 0) 8 rfl Try.underlying24 info3 rfl (by decide) (by omega) u5 x5_1 x15_1 [.int .i64 x15_1] (fun k_ => some k_ ≠ (.slice (some ad391) t388.length co7 : Value).ownBlock ∧ some k_ ≠ (v394 : Value).ownBlock) (fun _ => False) rfl rfl ?aP (fun _ hk => hk.elim) ?aF ?aO ?aB ?aS ?aL ?_; (case aP => exact rfl); (case aB => exact Ub); (case aF => exact (fun k_ hk => ⟨Kd.fresh' (Kd.R_lt (Rm HO_13.out)) k_ hk, Kd.fresh' (Kd.R_lt (Rm HO395.out)) k_ hk⟩)); (case aO => exact (Rm HO_5.out)); (case aS => exact (below_size Ub)); (case aL => have := LMc22.out; omega); intro v401 w24 ho hb hg hat; rw [← Ny400.out] at ho; replace HO_13 := Aside0.mk (Kd.R_after (ok := (fun k_ => some k_ ≠ (v394 : Value).ownBlock)) (by (with_reducible repeat (first | apply Kd.R_alloc | apply Kd.R_drewN | apply Kd.R_drew)); exact Kd.R_mono HO_13.out (fun _ hk => ⟨hk.2, hk.1⟩)) hg hat); replace HO395 := Aside0.mk (Kd.R_after (ok := (fun k_ => some k_ ≠ (.slice (some ad391) t388.length co7 : Value).ownBlock)) (by (with_reducible repeat (first | apply Kd.R_alloc | apply Kd.R_drewN | apply Kd.R_drew)); exact Kd.R_mono HO395.out (fun _ hk => ⟨hk.2, hk.1.2⟩)) hg hat); replace HB := Aside0.mk (hb); have HO402 := Aside0.mk (ho); clear HO_5; clear ho hb hg hat))
     go_roundg k1
     case measure => have := HK1.out; omega
     case rel => exact ⟨(y400), (wrap64 (x15_1 + 1)), Rs, H', ⟨by have := HK1.out; omega⟩, ⟨by (with_reducible repeat (first | apply Kd.R_alloc | apply Kd.R_drewN | apply Kd.R_drew)); exact Kd.R_mono HO402.out (fun _ hk => hk.1)⟩, ⟨by (with_reducible repeat (first | apply Kd.R_alloc | apply Kd.R_drewN | apply Kd.R_drew)); exact Kd.R_mono HO_13.out (fun _ hk => hk.2)⟩, ⟨Ub⟩⟩
   have c8b0 := decide_eq_false c8
   clear c8
   obtain rfl := Option.some.inj H
   go_wp2
   go_ret
   exact ⟨_, Re, by (with_reducible repeat (first | apply Kd.R_alloc | apply Kd.R_drewN | apply Kd.R_drew)); exact Kd.R_mono HO_5.out (fun _ hk => trivial), Ub⟩

/-! ### impl_FailuresUpTo: function 23 -/
def impl_FailuresUpTo.f (k : Nat) (l0 : List Int) (a1 : Int) : Option (List Int × Bool) := (impl_AreCoins.f k l0).bind fun t403 => (if t403 = true then ((impl_within.f a1 0 2000).bind fun t404 => (if t404 = true then ((impl_failures.f k l0 a1).bind fun t405 => (some (t405, true))) else (some (([] : List Int), false)))) else (some (([] : List Int), false)))
theorem impl_FailuresUpTo.calls (k : Nat) (A0 : Option Addr) (c0 : Nat) (l0 : List Int) (a1 : Int) (r1 : List Int) (r2 : Bool) (w : World) (hr0 : Kd.C (Kd.int .i64) w A0 l0.length l0) (hc0 : l0.length ≤ c0) (h : impl_FailuresUpTo.f k l0 a1 = some (r1, r2)) :
 Calls Try.prog 23 #[.slice A0 l0.length c0, .int .i64 a1] w fun e w' => ∃ v0_ : Value, e = .returned (.tuple #[v0_, .bool r2]) ∧ Kd.R (Kd.int .i64) 3 w' w.heap.size (fun _ => True) v0_ r1 ∧ Below w.heap.size w w' := by
 have HR0 := Aside0.mk hr0
 have HC0 := Aside0.mk hc0
 clear hr0 hc0
 have HB := Aside0.mk (Below.refl w.heap.size w)
 have H := h; unfold impl_FailuresUpTo.f at H
 clear h
 replace H := Option.bind_eq_some_iff.mp H
 obtain ⟨t403, A30, H⟩ := H
 have A3 := Aside0.mk A30
 clear A30
 replace H := Iw H; rcases H with ⟨rfl, H⟩ | ⟨rfl, H⟩
 · replace H := Option.bind_eq_some_iff.mp H
   obtain ⟨t404, A50, H⟩ := H
   have A5 := Aside0.mk A50
   clear A50
   replace H := Iw H; rcases H with ⟨rfl, H⟩ | ⟨rfl, H⟩
   · replace H := Option.bind_eq_some_iff.mp H
     obtain ⟨t405, A70, H⟩ := H
     have A7 := Aside0.mk A70
     clear A70
     simp only [Option.some.injEq, Prod.mk.injEq] at H
     obtain ⟨rfl, rfl⟩ := H
     go_enter Try.func23, Try.ntmps23
     go_wp2_with (first | (refine Gl 7 #[.slice A0 l0.length c0] Try.func20 ?_; (with_reducible refine (impl_AreCoins.calls k _ _ l0 true _ (Cm HR0.out) HC0.out A3.out).mono ?_); rintro e w8 ⟨rfl, hb⟩; refine ⟨_, rfl, ?_⟩; replace HB := Aside0.mk (below_step Ub hb); clear hb) | (go_at_call 105; (with_reducible refine (impl_within.calls a1 0 2000 true _ A5.out).mono ?_); rintro e w' ⟨rfl, ⟨nd, rfl⟩⟩) | (refine Gl 16 #[.slice A0 l0.length c0, .int .i64 a1] Try.func109 ?_; (with_reducible refine (impl_failures.calls k _ _ l0 a1 t405 _ (Cm (Kd.C_below HR0.out Ub)) HC0.out A7.out).mono ?_); rintro e w9 ⟨v406, rfl, ho0, hb⟩; refine ⟨_, rfl, ?_⟩; have HO407 := Aside0.mk (Kd.R_lower ho0 (below_size Ub)); replace HB := Aside0.mk (below_step Ub hb); clear hb ho0))
     go_ret2
     exact ⟨_, Re, Rm HO407.out, Ub⟩
   simp only [Option.some.injEq, Prod.mk.injEq] at H
   obtain ⟨rfl, rfl⟩ := H
   go_enter Try.func23, Try.ntmps23
   go_wp2_with (first | (refine Gl 7 #[.slice A0 l0.length c0] Try.func20 ?_; (with_reducible refine (impl_AreCoins.calls k _ _ l0 true _ (Cm HR0.out) HC0.out A3.out).mono ?_); rintro e w10 ⟨rfl, hb⟩; refine ⟨_, rfl, ?_⟩; replace HB := Aside0.mk (below_step Ub hb); clear hb) | (go_at_call 105; (with_reducible refine (impl_within.calls a1 0 2000 false _ A5.out).mono ?_); rintro e w' ⟨rfl, ⟨nd, rfl⟩⟩))
   go_ret2
   exact ⟨_, Re, Nl, Ub⟩
 simp only [Option.some.injEq, Prod.mk.injEq] at H
 obtain ⟨rfl, rfl⟩ := H
 go_enter Try.func23, Try.ntmps23
 go_wp2_with (first | (refine Gl 7 #[.slice A0 l0.length c0] Try.func20 ?_; (with_reducible refine (impl_AreCoins.calls k _ _ l0 false _ (Cm HR0.out) HC0.out A3.out).mono ?_); rintro e w11 ⟨rfl, hb⟩; refine ⟨_, rfl, ?_⟩; replace HB := Aside0.mk (below_step Ub hb); clear hb))
 go_ret2
 exact ⟨_, Re, Nl, Ub⟩

/-! ### laws_tHas: function 24 -/
def laws_tHas.l0 : Nat → Int → List Int → Int → Int → Option (Bool)
 | 0, _, _, _, _ => none
 | k + 1, x1, x7, x8, x9 => if x9 < x8 then (if 0 ≤ x9 then (if x9 < (x7.length : Int) then (if (rd x7 x9) = x1 then (some true) else (laws_tHas.l0 k x1 x7 x8 (wrap64 (x9 + 1)))) else (none)) else (none)) else (some false)
def laws_tHas.f (k : Nat) (l0 : List Int) (a1 : Int) : Option (Bool) := laws_tHas.l0 k a1 l0 (l0.length : Int) 0
theorem laws_tHas.calls (k : Nat) (A0 : Option Addr) (c0 : Nat) (l0 : List Int) (a1 : Int) (r : Bool) (w : World) (hr0 : Kd.C (Kd.int .i64) w A0 l0.length l0) (hc0 : l0.length ≤ c0) (h : laws_tHas.f k l0 a1 = some r) :
 Calls Try.prog 24 #[.slice A0 l0.length c0, .int .i64 a1] w fun e w' => e = .returned (.bool r) ∧ Drawn0 w w' := by
 have HR0 := Aside0.mk hr0
 have HC0 := Aside0.mk hc0
 clear hr0 hc0
 have H := h; unfold laws_tHas.f at H
 clear h
 have H' := Aside0.mk H
 clear H
 go_enter Try.func24, Try.ntmps24
 go_wp2
 go_loopg [9] k (fun kq v9 w' => ∃ (x9_1 : Int), v9 = .int .i64 x9_1 ∧ Aside0 (laws_tHas.l0 kq a1 l0 (l0.length : Int) x9_1 = some r) ∧ Aside0 (kq ≤ k) ∧ Drawn0 w w')
 case atStart => exact ⟨(0), Rs, H', ⟨Nat.le_refl _⟩, Dr⟩
 case round =>
  clear H'
  obtain ⟨x9_1, rfl, HA, HK1, ⟨m1, rfl⟩⟩ := hrel
  cases gk with
  | zero => exact absurd HA.out (by simp [laws_tHas.l0])
  | succ k1 =>
   have H := HA.out
   clear HA
   simp only [laws_tHas.l0] at H
   replace H := Ic H; rcases H with ⟨c3, H⟩ | ⟨c3, H⟩
   · have c3b0 := decide_eq_true c3
     clear c3
     replace H := Ip H; obtain ⟨c4, H⟩ := H
     have c4b0 := decide_eq_true c4
     clear c4
     replace H := Ip H; obtain ⟨c5, H⟩ := H
     have c5b0 := decide_eq_true c5
     clear c5
     replace H := Ic H; rcases H with ⟨c6, H⟩ | ⟨c6, H⟩
     · have c6b0 : ((rd l0 x9_1) == a1) = true := beq_iff_eq.mpr c6
       have c6b1 := bne_eq_false_iff_eq.mpr c6
       clear c6
       obtain rfl := Option.some.inj H
       obtain ⟨p408, q408, ad408, e408, hx408_0⟩ := Ai HR0.out x9_1
       cases e408
       go_wp2
       go_ret
       exact ⟨Rs, Dr⟩
     have c6b0 : ((rd l0 x9_1) == a1) = false := beq_eq_false_iff_ne.mpr c6
     have c6b1 := bne_iff_ne.mpr c6
     have H' := Aside0.mk H
     clear H
     obtain ⟨p408, q408, ad408, e408, hx408_0⟩ := Ai HR0.out x9_1
     cases e408
     go_wp2
     go_roundg k1
     case measure => have := HK1.out; omega
     case rel => exact ⟨(wrap64 (x9_1 + 1)), Rs, H', ⟨by have := HK1.out; omega⟩, Dr⟩
   have c3b0 := decide_eq_false c3
   clear c3
   obtain rfl := Option.some.inj H
   go_wp2
   go_ret
   exact ⟨Rs, Dr⟩

/-! ### spec_DrawAreCoins: function 110 -/
def spec_DrawAreCoins_in.f (k : Nat) (s0_0 : List Int) (s0_1 : Int) (s0_2 : Int) : Option (List Int × Int × Int) := (spec_l1Cur_coins.f k s0_0 s0_1 s0_2).bind fun bt409 => (some (bt409.1, bt409.2.1, bt409.2.2))
def spec_DrawAreCoins.f (k : Nat) (l0 : List Int) : Option (List Int) := (spec_DrawAreCoins_in.f k l0 0 0).bind fun t_ => some (t_.1)
theorem spec_DrawAreCoins.calls (k : Nat) (A0_ : Option Addr) (c0_ : Nat) (s0_0 : List Int) (r1 : List Int) (w0 : World) (hr0_ : Kd.C (Kd.int .u8) w0 A0_ s0_0.length s0_0) (hc0_ : s0_0.length ≤ c0_) (h : spec_DrawAreCoins.f k s0_0 = some (r1)) :
 Calls Try.prog 110 #[.slice A0_ s0_0.length c0_] w0 fun e w' => ∃ v0_ : Value, e = .returned (v0_) ∧ Kd.V (Kd.int .i64) 3 w' w0.heap.size (fun k_ => (w0.heap.size ≤ k_)) v0_ r1 ∧ Below w0.heap.size w0 w' := by
 unfold spec_DrawAreCoins.f at h
 obtain ⟨tt_, h0_, h⟩ := Option.bind_eq_some_iff.1 h
 obtain ⟨y0_, r2, r3⟩ := tt_
 have h := (Option.some.inj h).symm
 subst h
 obtain ⟨s0_1, es1_⟩ : ∃ s_ : Int, s_ = 0 := ⟨_, rfl⟩
 obtain ⟨s0_2, es2_⟩ : ∃ s_ : Int, s_ = 0 := ⟨_, rfl⟩
 have h : spec_DrawAreCoins_in.f k s0_0 s0_1 s0_2 = some (r1, r2, r3) := by subst es1_ es2_; exact h0_
 clear h0_
 obtain ⟨g, hg_⟩ : ∃ g_, g_ = w0.heap.size := ⟨_, rfl⟩
 obtain ⟨w, hw_⟩ : ∃ w_, w_ = w0.alloc (.cells #[.slice A0_ s0_0.length c0_, .int .i64 0, .int .u64 0] 65) := ⟨_, rfl⟩
 have hI : IsS65 w0 w g s0_0 s0_1 s0_2 := by subst hw_; subst hg_; subst es1_; subst es2_; exact ⟨A0_, c0_, blk_new _ _, Nat.le_refl _, hr0_⟩
 have hB : Below w0.heap.size w0 w := by subst hw_; exact below_alloc (Below.refl _ _) _
 have HGW_ := Aside0.mk (And.intro hg_ hw_)
 have hle_ := hB.size
 clear hg_ hw_ es1_ es2_ hr0_ hc0_
 refine (show Calls Try.prog 110 #[.slice A0_ s0_0.length c0_] w0 (fun e w' => ∃ v0_ : Value, e = .returned (v0_) ∧ Kd.V (Kd.int .i64) 3 w' w.heap.size (fun k_ => (w.heap.size ≤ k_)) v0_ r1 ∧ IsS65 w0 w' g s0_0 r2 r3 ∧ Below w0.heap.size w0 w' ∧ KeepBut w w' g none) from ?_).mono (fun e w' hx_ => by obtain ⟨v0_, rfl, hx1_, hx2_, hx3_, hx4_⟩ := hx_; exact ⟨v0_, rfl, Kd.V_mono (Kd.V_lower hx1_ hle_) (fun k_ hk_ => Nat.le_trans hle_ hk_), hx3_⟩)
 clear hle_
 have HI0 := Aside0.mk hI
 have HK := Aside0.mk (KeepBut.refl w g none)
 have HL := Aside0.mk hB.size
 clear hI
 have HW0 := Aside0.mk hB.size
 have HB := Aside0.mk hB
 clear hB
 have H := h; unfold spec_DrawAreCoins.f at H
 clear h
 replace H := Option.bind_eq_some_iff.mp H
 obtain ⟨⟨t409, t412, t413⟩, A20, H⟩ := H
 have A2 := Aside0.mk A20
 clear A20
 simp only [Option.some.injEq, Prod.mk.injEq] at H
 obtain ⟨rfl, rfl, rfl⟩ := H
 go_enter Try.func110, Try.ntmps110
 go_upto_region 2 with (fail)
 (try simp only [Act.put, List.setIfInBounds_toArray, List.set_cons_zero, List.set_cons_succ])
 have hgw_ := HGW_.out
 rw [← hgw_.2, ← hgw_.1]
 clear hgw_
 go_wp2_with (first | (refine Gl 8 #[.pointer (some ⟨g, 0, none⟩)] Try.func113 ?_; (with_reducible refine (spec_l1Cur_coins.calls k g s0_0 s0_1 s0_2 t409 t412 t413 w0 _ ?side1 ?side2 A2.out).mono ?_); (case side1 => repeat (first | (with_reducible first | exact HI0.out | apply IsS65.alloc | apply IsS65.drewN | apply IsS65.drew | apply IsS65.set_1 | apply IsS65.set_2) | exact HI0.out)); (case side2 => repeat (first | (with_reducible first | exact HB.out | apply below_alloc | apply pw_below_drewN | apply below_drew1 | refine below_set ?_ (IsS65.ge HI0.out)) | exact HB.out)); rintro e w3 ⟨v410, rfl, ho0, hi, hb, hk⟩; refine ⟨_, rfl, ?_⟩; have HO411 := Aside0.mk (Kd.V_lower (Kd.V_mono (ok' := fun k_ => (w.heap.size ≤ k_) ∧ k_ ≠ g) ho0 (fun k_ hk_ => ⟨(Nat.le_trans (keep_size (w := w) (g := g) (row := none) (by repeat (first | (with_reducible first | exact HK.out | apply KeepBut.set_ | apply keep_drewN | apply keep_drew | apply keep_alloc) | exact HK.out))) hk_), (IsS65.fresh (by repeat (first | (with_reducible first | exact HI0.out | apply IsS65.alloc | apply IsS65.drewN | apply IsS65.drew | apply IsS65.set_1 | apply IsS65.set_2) | exact HI0.out)) k_ hk_)⟩)) (keep_size (w := w) (g := g) (row := none) (by repeat (first | (with_reducible first | exact HK.out | apply KeepBut.set_ | apply keep_drewN | apply keep_drew | apply keep_alloc) | exact HK.out)))); replace HK := Aside0.mk (KeepBut.trans (by repeat (first | (with_reducible first | exact HK.out | apply KeepBut.set_ | apply keep_drewN | apply keep_drew | apply keep_alloc) | exact HK.out)) hk (.inl rfl)); replace HB := Aside0.mk (hb); replace HI0 := Aside0.mk (hi); clear hb hk hi ho0))
 go_ret
 exact ⟨_, Re, by (with_reducible repeat (first | apply Kd.V_alloc | apply Kd.V_drewN | apply Kd.V_drew)); exact Kd.V_mono HO411.out (fun _ hk => hk.1), by repeat (first | (with_reducible first | exact HI0.out | apply IsS65.alloc | apply IsS65.drewN | apply IsS65.drew | apply IsS65.set_1 | apply IsS65.set_2) | exact HI0.out), by repeat (first | (with_reducible first | exact HB.out | apply below_alloc | apply pw_below_drewN | apply below_drew1 | refine below_set ?_ (IsS65.ge HI0.out)) | exact HB.out), by repeat (first | (with_reducible first | exact HK.out | apply KeepBut.set_ | apply keep_drewN | apply keep_drew | apply keep_alloc) | exact HK.out)⟩

/-! ### spec_DrawFirstFailure: function 25 -/
def spec_DrawFirstFailure.f (k : Nat) (l0 : List Int) : Option (List Int) := (spec_DrawAreCoins.f k l0).bind fun t414 => (some t414)
theorem spec_DrawFirstFailure.calls (k : Nat) (A0 : Option Addr) (c0 : Nat) (l0 : List Int) (r : List Int) (w : World) (hr0 : Kd.C (Kd.int .u8) w A0 l0.length l0) (hc0 : l0.length ≤ c0) (h : spec_DrawFirstFailure.f k l0 = some r) :
 Calls Try.prog 25 #[.slice A0 l0.length c0] w fun e w' => ∃ v0_ : Value, e = .returned (v0_) ∧ Kd.V (Kd.int .i64) 3 w' w.heap.size (fun k_ => (w.heap.size ≤ k_)) v0_ r ∧ Below w.heap.size w w' := by
 have HR0 := Aside0.mk hr0
 have HC0 := Aside0.mk hc0
 clear hr0 hc0
 have HB := Aside0.mk (Below.refl w.heap.size w)
 have H := h; unfold spec_DrawFirstFailure.f at H
 clear h
 replace H := Option.bind_eq_some_iff.mp H
 obtain ⟨t414, A20, H⟩ := H
 have A2 := Aside0.mk A20
 clear A20
 obtain rfl := Option.some.inj H
 go_enter Try.func25, Try.ntmps25
 go_wp2_with (first | (refine Gl 4 #[.slice A0 l0.length c0] Try.func110 ?_; (with_reducible refine (spec_DrawAreCoins.calls k _ _ l0 t414 _ (Cm HR0.out) HC0.out A2.out).mono ?_); rintro e w3 ⟨v415, rfl, ho0, hb⟩; refine ⟨_, rfl, ?_⟩; have HO416 := Aside0.mk (Kd.V_lower (Kd.V_mono (ok' := fun k_ => (w.heap.size ≤ k_)) ho0 (fun k_ hk_ => (Nat.le_trans (below_size Ub) hk_))) (below_size Ub)); replace HB := Aside0.mk (below_step Ub hb); clear hb ho0))
 go_ret
 exact ⟨_, Re, by (with_reducible repeat (first | apply Kd.V_alloc | apply Kd.V_drewN | apply Kd.V_drew)); exact HO416.out, Ub⟩

/-! ### impl_FirstFailure: function 26 -/
def impl_FirstFailure.f (k : Nat) (l0 : List Int) : Option (Int × Bool) := (impl_AreCoins.f k l0).bind fun t417 => (if t417 = true then ((impl_failures.f k l0 2000).bind fun t418 => (if (t418.length : Int) = 0 then (some (0, false)) else (if 0 < (t418.length : Int) then (some (rd t418 0, true)) else (none)))) else (some (0, false)))
theorem impl_FirstFailure.calls (k : Nat) (A0 : Option Addr) (c0 : Nat) (l0 : List Int) (r1 : Int) (r2 : Bool) (w : World) (hr0 : Kd.C (Kd.int .i64) w A0 l0.length l0) (hc0 : l0.length ≤ c0) (h : impl_FirstFailure.f k l0 = some (r1, r2)) :
 Calls Try.prog 26 #[.slice A0 l0.length c0] w fun e w' => e = .returned (.tuple #[.int .i64 r1, .bool r2]) ∧ Below w.heap.size w w' := by
 have HR0 := Aside0.mk hr0
 have HC0 := Aside0.mk hc0
 clear hr0 hc0
 have HB := Aside0.mk (Below.refl w.heap.size w)
 have H := h; unfold impl_FirstFailure.f at H
 clear h
 replace H := Option.bind_eq_some_iff.mp H
 obtain ⟨t417, A20, H⟩ := H
 have A2 := Aside0.mk A20
 clear A20
 replace H := Iw H; rcases H with ⟨rfl, H⟩ | ⟨rfl, H⟩
 · replace H := Option.bind_eq_some_iff.mp H
   obtain ⟨t418, A40, H⟩ := H
   have A4 := Aside0.mk A40
   clear A40
   replace H := Ic H; rcases H with ⟨c5, H⟩ | ⟨c5, H⟩
   · have c5b0 : ((t418.length : Int) == 0) = true := beq_iff_eq.mpr c5
     have c5b1 := bne_eq_false_iff_eq.mpr c5
     clear c5
     simp only [Option.some.injEq, Prod.mk.injEq] at H
     obtain ⟨rfl, rfl⟩ := H
     go_enter Try.func26, Try.ntmps26
     go_wp2_with (first | (refine Gl 6 #[.slice A0 l0.length c0] Try.func20 ?_; (with_reducible refine (impl_AreCoins.calls k _ _ l0 true _ (Cm HR0.out) HC0.out A2.out).mono ?_); rintro e w6 ⟨rfl, hb⟩; refine ⟨_, rfl, ?_⟩; replace HB := Aside0.mk (below_step Ub hb); clear hb) | (refine Gl 9 #[.slice A0 l0.length c0, .int .i64 2000] Try.func109 ?_; (with_reducible refine (impl_failures.calls k _ _ l0 2000 t418 _ (Cm (Kd.C_below HR0.out HB.out)) HC0.out A4.out).mono ?_); rintro e w7 ⟨v419, rfl, ho0, hb⟩; refine ⟨_, rfl, ?_⟩; have HO420 := Aside0.mk (Kd.R_lower ho0 (below_size Ub)); replace HB := Aside0.mk (below_step Ub hb); clear hb ho0; obtain ⟨Ao8, co8, eo8⟩ := Kd.R_slice HO420.out; subst eo8))
     go_ret2
     exact ⟨Re, Ub⟩
   have c5b0 : ((t418.length : Int) == 0) = false := beq_eq_false_iff_ne.mpr c5
   have c5b1 := bne_iff_ne.mpr c5
   have c5b2 : ¬ (t418 = []) := fun h_ => c5 (by rw [h_]; rfl)
   replace H := Ip H; obtain ⟨c9, H⟩ := H
   try dsimp only at c9
   have c9b0 := decide_eq_true c9
   have c9b1 : decide (0 < t418.length) = true := decide_eq_true (by omega)
   clear c9
   simp only [Option.some.injEq, Prod.mk.injEq] at H
   obtain ⟨rfl, rfl⟩ := H
   go_enter Try.func26, Try.ntmps26
   go_wp2_with (first | (refine Gl 6 #[.slice A0 l0.length c0] Try.func20 ?_; (with_reducible refine (impl_AreCoins.calls k _ _ l0 true _ (Cm HR0.out) HC0.out A2.out).mono ?_); rintro e w10 ⟨rfl, hb⟩; refine ⟨_, rfl, ?_⟩; replace HB := Aside0.mk (below_step Ub hb); clear hb) | (refine Gl 9 #[.slice A0 l0.length c0, .int .i64 2000] Try.func109 ?_; (with_reducible refine (impl_failures.calls k _ _ l0 2000 t418 _ (Cm (Kd.C_below HR0.out HB.out)) HC0.out A4.out).mono ?_); rintro e w11 ⟨v419, rfl, ho0, hb⟩; refine ⟨_, rfl, ?_⟩; have HO420 := Aside0.mk (Kd.R_lower ho0 (below_size Ub)); replace HB := Aside0.mk (below_step Ub hb); clear hb ho0; obtain ⟨Ao12, co12, eo12⟩ := Kd.R_slice HO420.out; subst eo12; have p421 : 0 ≤ (0 : Int) := (by omega); have q421 : 0 < (t418.length : Int) := Oa; obtain ⟨ad421, e421, hx421_0⟩ := Kd.at_int (Kd.R_reads' HO420.out).2.2 0 p421 q421; cases e421; have qi421 : (0 < t418.length) = True := eq_true (by omega); (try rw [show ((0 : Int)).toNat = 0 from rfl] at hx421_0); (try rw [Addr.add_zero'] at hx421_0); replace p421 := eq_true p421; replace q421 := eq_true q421))
   go_ret2
   exact ⟨Re, Ub⟩
 simp only [Option.some.injEq, Prod.mk.injEq] at H
 obtain ⟨rfl, rfl⟩ := H
 go_enter Try.func26, Try.ntmps26
 go_wp2_with (first | (refine Gl 6 #[.slice A0 l0.length c0] Try.func20 ?_; (with_reducible refine (impl_AreCoins.calls k _ _ l0 false _ (Cm HR0.out) HC0.out A2.out).mono ?_); rintro e w13 ⟨rfl, hb⟩; refine ⟨_, rfl, ?_⟩; replace HB := Aside0.mk (below_step Ub hb); clear hb))
 go_ret2
 exact ⟨Re, Ub⟩

/-! ### spec_cnFails: function 111 -/
def spec_cnFails.l0 : Nat → List Int → List Bool → List Int → Int → Int → Option (List Bool)
 | 0, _, _, _, _, _ => none
 | k + 1, x0, x5, x15, x16, x17 => if x17 < x16 then (if 0 ≤ x17 then (if x17 < (x15.length : Int) then ((spec_cnGreedy.f k x0 x17).bind fun bt429 => (if (rd x15 x17) ≥ 0 then (if bt429.2 = true then ((spec_piSum.f k bt429.1).bind fun t433 => (if x17 < (x5.length : Int) then (spec_cnFails.l0 k x0 (x5.set (x17 : Int).toNat (decide (t433 > (rd x15 x17)))) x15 x16 (wrap64 (x17 + 1))) else (none))) else (if x17 < (x5.length : Int) then (spec_cnFails.l0 k x0 (x5.set (x17 : Int).toNat true) x15 x16 (wrap64 (x17 + 1))) else (none))) else (if x17 < (x5.length : Int) then (spec_cnFails.l0 k x0 (x5.set (x17 : Int).toNat false) x15 x16 (wrap64 (x17 + 1))) else (none)))) else (none)) else (none)) else (some x5)
def spec_cnFails.f (k : Nat) (l0 : List Int) (a1 : Int) : Option (List Bool) := if 0 ≤ (wrap64 (a1 + 1)) then (if (wrap64 (a1 + 1) : Int).toNat ≤ 281474976710656 then ((spec_cnFew.f k l0 a1).bind fun t425 => (spec_cnFails.l0 k l0 (List.replicate (wrap64 (a1 + 1) : Int).toNat false) t425 (t425.length : Int) 0)) else (none)) else (none)
theorem spec_cnFails.calls (k : Nat) (A0 : Option Addr) (c0 : Nat) (l0 : List Int) (a1 : Int) (r : List Bool) (w : World) (hr0 : Kd.C (Kd.int .i64) w A0 l0.length l0) (hc0 : l0.length ≤ c0) (h : spec_cnFails.f k l0 a1 = some r) :
 Calls Try.prog 111 #[.slice A0 l0.length c0, .int .i64 a1] w fun e w' => ∃ v0_ : Value, e = .returned (v0_) ∧ Kd.R Kd.bool 4 w' w.heap.size (fun _ => True) v0_ r ∧ Below w.heap.size w w' := by
 have HR0 := Aside0.mk hr0
 have HC0 := Aside0.mk hc0
 clear hr0 hc0
 have HB := Aside0.mk (Below.refl w.heap.size w)
 have H := h; unfold spec_cnFails.f at H
 clear h
 obtain ⟨ji3, hji3⟩ : ∃ j_ : Int, (wrap64 (a1 + 1)) = j_ := ⟨_, rfl⟩
 replace H : (if 0 ≤ (ji3) then (if (ji3 : Int).toNat ≤ 281474976710656 then ((spec_cnFew.f k l0 a1).bind fun t425 => (spec_cnFails.l0 k l0 (List.replicate (ji3 : Int).toNat false) t425 (t425.length : Int) 0)) else (none)) else (none)) = some r := by first | (rw [hji3] at H; exact H) | (simp only [hji3] at H ⊢; exact H)
 have hji3w : (IntKind.i64.wrap (a1 + 1)) = ji3 := (i64_w _).trans hji3
 replace H := Ic H; rcases H with ⟨c4, H⟩ | ⟨c4, H⟩
 · have c4b0 := eq_true c4
   have c4b1 := decide_eq_true c4
   clear c4
   replace H := Ip H; obtain ⟨c5, H⟩ := H
   have c5b0 := eq_true c5
   have c5b1 := decide_eq_true c5
   clear c5
   obtain ⟨y422, hy422⟩ : ∃ y_ : List Bool, y_ = (List.replicate (ji3 : Int).toNat false) := ⟨_, rfl⟩
   replace H : ((spec_cnFew.f k l0 a1).bind fun t425 => (spec_cnFails.l0 k l0 y422 t425 (t425.length : Int) 0)) = some r := by first | (rw [hy422]; with_reducible exact H) | (have H2_ := (Option.bind_some _ _).symm.trans H; rw [hy422]; with_reducible exact H2_) | (have H2_ := (Option.bind_some _ _).symm.trans H; with_reducible exact H2_) | with_reducible exact H | (rw [hy422]; exact H) | exact H
   have Ny422 := Aside0.mk hy422
   clear hy422
   replace H := Option.bind_eq_some_iff.mp H
   obtain ⟨t425, A60, H⟩ := H
   have A6 := Aside0.mk A60
   clear A60
   have H' := Aside0.mk H
   clear H
   go_enter Try.func111, Try.ntmps111
   go_wp2_with (first | ((with_reducible refine gate_dst (N := 12) rfl ?_); refine Kd.R_make Kd.bool _ 4 rfl (N := 12) rfl 60 _ _ rfl ji3 rfl rfl Try.underlying60 (.bool false) 1 info4 rfl (by decide) (by omega) false (ok := fun _ => True) (okp := fun _ => True) rfl (fun _ hk => hk) trivial (Oa) (Nat.le_trans (Nat.mul_le_mul_right _ (Oa : ji3.toNat ≤ 281474976710656)) (by omega)) (Below.refl _ _) (Nat.le_refl _) ?_; intro v423 w7 ho8 hb hg_ hnew_; clear hg_ hnew_; (first | rw [← Ny422.out] at ho8 | (simp only [Int.reduceToNat] at ho8; rw [← Ny422.out] at ho8)); have HO424 := Aside0.mk (Kd.R_lower ho8 (below_size Ub)); replace HB := Aside0.mk (below_step Ub hb); clear hb ho8) | (refine Gl 15 #[.slice A0 l0.length c0, .int .i64 a1] Try.func97 ?_; (with_reducible refine (spec_cnFew.calls k _ _ l0 a1 t425 _ (Cm (Kd.C_below HR0.out HB.out)) HC0.out A6.out).mono ?_); rintro e w9 ⟨v426, rfl, ho0, hb⟩; refine ⟨_, rfl, ?_⟩; replace HO424 := Aside0.mk (Kd.R_below (Rm HO424.out) hb); have HO427 := Aside0.mk (Kd.R_lower ho0 (below_size Ub)); replace HB := Aside0.mk (below_step Ub hb); clear hb ho0; obtain ⟨Ao10, co10, eo10⟩ := Kd.R_slice HO427.out; subst eo10))
   go_loopg [17] k (fun kq v17 w' => ∃ (x5_1 : List Bool) (x17_1 : Int), v17 = .int .i64 x17_1 ∧ Aside0 (spec_cnFails.l0 kq l0 x5_1 t425 (t425.length : Int) x17_1 = some r) ∧ Aside0 (kq ≤ k) ∧ Aside0 (Kd.R Kd.bool 4 w' w.heap.size (fun _ => True) v423 x5_1) ∧ Aside0 (Kd.R (Kd.int .i64) 3 w' w.heap.size (fun _ => True) (.slice Ao10 t425.length co10) t425) ∧ Aside0 (Below w.heap.size w w'))
   case atStart => exact ⟨(y422), (0), Rs, H', ⟨Nat.le_refl _⟩, ⟨Rm HO424.out⟩, ⟨Rm HO427.out⟩, ⟨Ub⟩⟩
   case round =>
    clear H'
    try clear c4
    try clear c4b0
    try clear c4b1
    try clear c5
    try clear c5b0
    try clear c5b1
    obtain ⟨x5_1, x17_1, rfl, HA, HK1, HO_5, HO_15, HB⟩ := hrel
    cases gk with
    | zero => exact absurd HA.out (by simp [spec_cnFails.l0])
    | succ k1 =>
     have H := HA.out
     clear HA
     simp only [spec_cnFails.l0] at H
     replace H := Ic H; rcases H with ⟨c11, H⟩ | ⟨c11, H⟩
     · have c11b0 := decide_eq_true c11
       clear c11
       replace H := Ip H; obtain ⟨c12, H⟩ := H
       have c12b0 := decide_eq_true c12
       clear c12
       replace H := Ip H; obtain ⟨c13, H⟩ := H
       have c13b0 := decide_eq_true c13
       clear c13
       replace H := Option.bind_eq_some_iff.mp H
       obtain ⟨⟨t429, t430⟩, A140, H⟩ := H
       have A14 := Aside0.mk A140
       clear A140
       replace H := Ic H; rcases H with ⟨c15, H⟩ | ⟨c15, H⟩
       · have c15b0 : decide (0 ≤ (rd t425 x17_1)) = true := decide_eq_true c15
         clear c15
         replace H := Iw H; rcases H with ⟨rfl, H⟩ | ⟨rfl, H⟩
         · replace H := Option.bind_eq_some_iff.mp H
           obtain ⟨t433, A170, H⟩ := H
           have A17 := Aside0.mk A170
           clear A170
           replace H := Ip H; obtain ⟨c18, H⟩ := H
           have c18b0 := decide_eq_true c18
           clear c18
           obtain ⟨y434, hy434⟩ : ∃ y_ : List Bool, y_ = (x5_1.set (x17_1 : Int).toNat (decide (t433 > (rd t425 x17_1)))) := ⟨_, rfl⟩
           replace H : (spec_cnFails.l0 k1 l0 y434 t425 (t425.length : Int) (wrap64 (x17_1 + 1))) = some r := by first | (rw [hy434]; with_reducible exact H) | (have H2_ := (Option.bind_some _ _).symm.trans H; rw [hy434]; with_reducible exact H2_) | (have H2_ := (Option.bind_some _ _).symm.trans H; with_reducible exact H2_) | with_reducible exact H | (rw [hy434]; exact H) | exact H
           have Ny434 := Aside0.mk hy434
           clear hy434
           have H' := Aside0.mk H
           clear H
           obtain ⟨p428, q428, ad428, e428, hx428_0⟩ := Ai (Kd.R_reads' HO_15.out).2.2 x17_1
           cases e428
           go_wp2_with (first | (refine Gl 25 #[.slice A0 l0.length c0, .int .i64 x17_1] Try.func101 ?_; (with_reducible refine (spec_cnGreedy.calls k1 _ _ l0 x17_1 t429 true _ (Cm (Kd.C_below HR0.out HB.out)) HC0.out A14.out).mono ?_); rintro e w20 ⟨v431, rfl, ho0, hb⟩; refine ⟨_, rfl, ?_⟩; replace HO_5 := Aside0.mk (Kd.R_below (Rm HO_5.out) hb); have HO432 := Aside0.mk (Kd.R_lower (Kd.R_new' ho0 (Kd.R_lt (Rm HO_15.out))) (below_size Ub)); replace HO_15 := Aside0.mk (Kd.R_elder' (Rm HO_15.out) (Kd.R_base ho0) hb); replace HB := Aside0.mk (below_step Ub hb); clear hb ho0; obtain ⟨Ao21, co21, eo21⟩ := Kd.R_slice HO432.out; subst eo21) | (go_at_call 103; (with_reducible refine (spec_piSum.calls k1 _ _ t429 t433 _ (Cm (Kd.R_reads' HO432.out).2.2) ((Kd.R_reads' HO432.out).2.1) A17.out).mono ?_); rintro e w' ⟨rfl, ⟨nd, rfl⟩⟩; (try (rw [drewN_self w20]; generalize hq_ : World.drewN w20 _ = w20; have n0_ : Aside0 (Kd.R (Kd.int .i64) 3 w20 w.heap.size (fun k_ => some k_ ≠ (.slice (some ad428) t425.length co10 : Value).ownBlock) (.slice Ao21 t429.length co21) t429) := ⟨by rw [← hq_]; exact (by (with_reducible repeat (first | apply Kd.R_alloc | apply Kd.R_drewN | apply Kd.R_drew)); exact Kd.R_mono HO432.out (fun _ hk => hk.2))⟩; have n1_ : Aside0 (Kd.R (Kd.int .i64) 3 w20 w.heap.size (fun k_ => some k_ ≠ (.slice Ao21 t429.length co21 : Value).ownBlock) (.slice (some ad428) t425.length co10) t425) := ⟨by rw [← hq_]; exact (by (with_reducible repeat (first | apply Kd.R_alloc | apply Kd.R_drewN | apply Kd.R_drew)); exact Kd.R_mono HO_15.out (fun _ hk => hk.2))⟩; have n2_ : Aside0 (Kd.R Kd.bool 4 w20 w.heap.size (fun _ => True) v423 x5_1) := ⟨by rw [← hq_]; exact (Rm HO_5.out)⟩; have n3_ : Aside0 (Below w.heap.size w w20) := ⟨by rw [← hq_]; exact Ub⟩; clear HO432 HO_15 HO_5 HB hq_; have HO432 := n0_; have HO_15 := n1_; have HO_5 := n2_; have HB := n3_; clear n0_ n1_ n2_ n3_)); have p19 : 0 ≤ (x17_1 : Int) := Oa; have q19 : (x17_1 : Int) < ((x5_1.length : Int) : Int) := Oa; obtain ⟨go19, co19, eo19, gb19, gl19, cl19, HG19⟩ := Kd.R_form HO_5.out (by omega); (first | cases eo19 | (injection eo19 with ea_ en_ ec_; (first | subst ea_ | (injection ea_ with ea_; subst ea_)); subst ec_; clear en_)); have GB19 := Aside0.mk gb19; have GG19 := Aside0.mk HG19; clear gb19 gl19 HG19; obtain ⟨hx19_0, hf19_0⟩ := Kd.R_celln false HO_5.out (x17_1 : Int) p19 q19; replace p19 := eq_true p19; replace q19 := eq_true q19; obtain ⟨hy22_, hz22_⟩ := Kd.R_celln false HO_5.out (x17_1 : Int) (Oa) (Oa); have HP22 := Kd.R_putg HO_5.out (x17_1 : Int) (decide (t433 > (rd t425 x17_1)))) | ((with_reducible refine gate_store (t := 4) (p := 42) rfl ?_); refine store_event (t := 4) (p := 42) (v := ?vo_w23) (w1 := (w20.setCell ⟨go19, (x17_1 : Int).toNat, none⟩ (.bool (decide (t433 > (rd t425 x17_1)))))) ?hg ?ho ?hn ?hr ?_; (case ho => rfl); (case hg => rfl); (case hn => rfl); (case hr => first | (go_simp; done) | (go_simp; rfl)); intro w23 hw; have hg : w20.grownBy w23 (some go19) := (by rw [hw]; exact HP22.2); have hp_ : Kd.R Kd.bool 4 w23 w.heap.size (fun _ => True) (.slice (some ⟨go19, 0, none⟩) x5_1.length co19) y434 := (by rw [hw, Ny434.out]; exact HP22.1); clear HP22; replace HO_15 := Aside0.mk (Kd.R_over' (v := (.slice (some ⟨go19, 0, none⟩) x5_1.length co19)) (Rm HO_15.out) (Kd.R_typed HO_5.out) (by decide) hg); replace HO432 := Aside0.mk (Kd.R_over' (v := (.slice (some ⟨go19, 0, none⟩) x5_1.length co19)) (Rm HO432.out) (Kd.R_typed HO_5.out) (by decide) hg); replace HO_5 := Aside0.mk (hp_); replace HB := Aside0.mk ((by rw [hw]; exact below_set (HB.out) GB19.out : Below w.heap.size w w23)); clear hg hw hp_))
           go_roundg k1
           case measure => have := HK1.out; omega
           case rel => exact ⟨(y434), (wrap64 (x17_1 + 1)), Rs, H', ⟨by have := HK1.out; omega⟩, ⟨Rm HO_5.out⟩, ⟨by (with_reducible repeat (first | apply Kd.R_alloc | apply Kd.R_drewN | apply Kd.R_drew)); exact Kd.R_mono HO_15.out (fun _ hk => trivial)⟩, ⟨Ub⟩⟩
         replace H := Ip H; obtain ⟨c24, H⟩ := H
         have c24b0 := decide_eq_true c24
         clear c24
         obtain ⟨y435, hy435⟩ : ∃ y_ : List Bool, y_ = (x5_1.set (x17_1 : Int).toNat true) := ⟨_, rfl⟩
         replace H : (spec_cnFails.l0 k1 l0 y435 t425 (t425.length : Int) (wrap64 (x17_1 + 1))) = some r := by first | (rw [hy435]; with_reducible exact H) | (have H2_ := (Option.bind_some _ _).symm.trans H; rw [hy435]; with_reducible exact H2_) | (have H2_ := (Option.bind_some _ _).symm.trans H; with_reducible exact H2_) | with_reducible exact H | (rw [hy435]; exact H) | exact H
         have Ny435 := Aside0.mk hy435
         clear hy435
         have H' := Aside0.mk H
         clear H
         obtain ⟨p428, q428, ad428, e428, hx428_0⟩ := Ai (Kd.R_reads' HO_15.out).2.2 x17_1
         cases e428
         go_wp2_with (first | (refine Gl 25 #[.slice A0 l0.length c0, .int .i64 x17_1] Try.func101 ?_; (with_reducible refine (spec_cnGreedy.calls k1 _ _ l0 x17_1 t429 false _ (Cm (Kd.C_below HR0.out HB.out)) HC0.out A14.out).mono ?_); rintro e w26 ⟨v431, rfl, ho0, hb⟩; refine ⟨_, rfl, ?_⟩; replace HO_5 := Aside0.mk (Kd.R_below (Rm HO_5.out) hb); have HO432 := Aside0.mk (Kd.R_lower (Kd.R_new' ho0 (Kd.R_lt (Rm HO_15.out))) (below_size Ub)); replace HO_15 := Aside0.mk (Kd.R_elder' (Rm HO_15.out) (Kd.R_base ho0) hb); replace HB := Aside0.mk (below_step Ub hb); clear hb ho0; have p25 : 0 ≤ (x17_1 : Int) := Oa; have q25 : (x17_1 : Int) < ((x5_1.length : Int) : Int) := Oa; obtain ⟨go25, co25, eo25, gb25, gl25, cl25, HG25⟩ := Kd.R_form HO_5.out (by omega); (first | cases eo25 | (injection eo25 with ea_ en_ ec_; (first | subst ea_ | (injection ea_ with ea_; subst ea_)); subst ec_; clear en_)); have GB25 := Aside0.mk gb25; have GG25 := Aside0.mk HG25; clear gb25 gl25 HG25; obtain ⟨hx25_0, hf25_0⟩ := Kd.R_celln false HO_5.out (x17_1 : Int) p25 q25; replace p25 := eq_true p25; replace q25 := eq_true q25; obtain ⟨hy27_, hz27_⟩ := Kd.R_celln false HO_5.out (x17_1 : Int) (Oa) (Oa); have HP27 := Kd.R_putg HO_5.out (x17_1 : Int) true) | ((with_reducible refine gate_store (t := 4) (p := 42) rfl ?_); refine store_event (t := 4) (p := 42) (v := ?vo_w28) (w1 := (w26.setCell ⟨go25, (x17_1 : Int).toNat, none⟩ (.bool true))) ?hg ?ho ?hn ?hr ?_; (case ho => rfl); (case hg => rfl); (case hn => rfl); (case hr => first | (go_simp; done) | (go_simp; rfl)); intro w28 hw; have hg : w26.grownBy w28 (some go25) := (by rw [hw]; exact HP27.2); have hp_ : Kd.R Kd.bool 4 w28 w.heap.size (fun _ => True) (.slice (some ⟨go25, 0, none⟩) x5_1.length co25) y435 := (by rw [hw, Ny435.out]; exact HP27.1); clear HP27; replace HO_15 := Aside0.mk (Kd.R_over' (v := (.slice (some ⟨go25, 0, none⟩) x5_1.length co25)) (Rm HO_15.out) (Kd.R_typed HO_5.out) (by decide) hg); replace HO432 := Aside0.mk (Kd.R_over' (v := (.slice (some ⟨go25, 0, none⟩) x5_1.length co25)) (Rm HO432.out) (Kd.R_typed HO_5.out) (by decide) hg); replace HO_5 := Aside0.mk (hp_); replace HB := Aside0.mk ((by rw [hw]; exact below_set (HB.out) GB25.out : Below w.heap.size w w28)); clear hg hw hp_))
         go_roundg k1
         case measure => have := HK1.out; omega
         case rel => exact ⟨(y435), (wrap64 (x17_1 + 1)), Rs, H', ⟨by have := HK1.out; omega⟩, ⟨Rm HO_5.out⟩, ⟨by (with_reducible repeat (first | apply Kd.R_alloc | apply Kd.R_drewN | apply Kd.R_drew)); exact Kd.R_mono HO_15.out (fun _ hk => trivial)⟩, ⟨Ub⟩⟩
       have c15b0 : decide (0 ≤ (rd t425 x17_1)) = false := decide_eq_false c15
       clear c15
       replace H := Ip H; obtain ⟨c29, H⟩ := H
       have c29b0 := decide_eq_true c29
       clear c29
       obtain ⟨y436, hy436⟩ : ∃ y_ : List Bool, y_ = (x5_1.set (x17_1 : Int).toNat false) := ⟨_, rfl⟩
       replace H : (spec_cnFails.l0 k1 l0 y436 t425 (t425.length : Int) (wrap64 (x17_1 + 1))) = some r := by first | (rw [hy436]; with_reducible exact H) | (have H2_ := (Option.bind_some _ _).symm.trans H; rw [hy436]; with_reducible exact H2_) | (have H2_ := (Option.bind_some _ _).symm.trans H; with_reducible exact H2_) | with_reducible exact H | (rw [hy436]; exact H) | exact H
       have Ny436 := Aside0.mk hy436
       clear hy436
       have H' := Aside0.mk H
       clear H
       obtain ⟨p428, q428, ad428, e428, hx428_0⟩ := Ai (Kd.R_reads' HO_15.out).2.2 x17_1
       cases e428
       go_wp2_with (first | (refine Gl 25 #[.slice A0 l0.length c0, .int .i64 x17_1] Try.func101 ?_; (with_reducible refine (spec_cnGreedy.calls k1 _ _ l0 x17_1 t429 t430 _ (Cm (Kd.C_below HR0.out HB.out)) HC0.out A14.out).mono ?_); rintro e w31 ⟨v431, rfl, ho0, hb⟩; refine ⟨_, rfl, ?_⟩; replace HO_5 := Aside0.mk (Kd.R_below (Rm HO_5.out) hb); have HO432 := Aside0.mk (Kd.R_lower (Kd.R_new' ho0 (Kd.R_lt (Rm HO_15.out))) (below_size Ub)); replace HO_15 := Aside0.mk (Kd.R_elder' (Rm HO_15.out) (Kd.R_base ho0) hb); replace HB := Aside0.mk (below_step Ub hb); clear hb ho0; have p30 : 0 ≤ (x17_1 : Int) := Oa; have q30 : (x17_1 : Int) < ((x5_1.length : Int) : Int) := Oa; obtain ⟨go30, co30, eo30, gb30, gl30, cl30, HG30⟩ := Kd.R_form HO_5.out (by omega); (first | cases eo30 | (injection eo30 with ea_ en_ ec_; (first | subst ea_ | (injection ea_ with ea_; subst ea_)); subst ec_; clear en_)); have GB30 := Aside0.mk gb30; have GG30 := Aside0.mk HG30; clear gb30 gl30 HG30; obtain ⟨hx30_0, hf30_0⟩ := Kd.R_celln false HO_5.out (x17_1 : Int) p30 q30; replace p30 := eq_true p30; replace q30 := eq_true q30; obtain ⟨hy32_, hz32_⟩ := Kd.R_celln false HO_5.out (x17_1 : Int) (Oa) (Oa); have HP32 := Kd.R_putg HO_5.out (x17_1 : Int) false) | ((with_reducible refine gate_store (t := 4) (p := 42) rfl ?_); refine store_event (t := 4) (p := 42) (v := ?vo_w33) (w1 := (w31.setCell ⟨go30, (x17_1 : Int).toNat, none⟩ (.bool false))) ?hg ?ho ?hn ?hr ?_; (case ho => rfl); (case hg => rfl); (case hn => rfl); (case hr => first | (go_simp; done) | (go_simp; rfl)); intro w33 hw; have hg : w31.grownBy w33 (some go30) := (by rw [hw]; exact HP32.2); have hp_ : Kd.R Kd.bool 4 w33 w.heap.size (fun _ => True) (.slice (some ⟨go30, 0, none⟩) x5_1.length co30) y436 := (by rw [hw, Ny436.out]; exact HP32.1); clear HP32; replace HO_15 := Aside0.mk (Kd.R_over' (v := (.slice (some ⟨go30, 0, none⟩) x5_1.length co30)) (Rm HO_15.out) (Kd.R_typed HO_5.out) (by decide) hg); replace HO432 := Aside0.mk (Kd.R_over' (v := (.slice (some ⟨go30, 0, none⟩) x5_1.length co30)) (Rm HO432.out) (Kd.R_typed HO_5.out) (by decide) hg); replace HO_5 := Aside0.mk (hp_); replace HB := Aside0.mk ((by rw [hw]; exact below_set (HB.out) GB30.out : Below w.heap.size w w33)); clear hg hw hp_))
       go_roundg k1
       case measure => have := HK1.out; omega
       case rel => exact ⟨(y436), (wrap64 (x17_1 + 1)), Rs, H', ⟨by have := HK1.out; omega⟩, ⟨Rm HO_5.out⟩, ⟨by (with_reducible repeat (first | apply Kd.R_alloc | apply Kd.R_drewN | apply Kd.R_drew)); exact Kd.R_mono HO_15.out (fun _ hk => trivial)⟩, ⟨Ub⟩⟩
     have c11b0 := decide_eq_false c11
     clear c11
     obtain rfl := Option.some.inj H
     go_wp2
     go_ret
     exact ⟨_, by first | rfl | (simp [errW_none, errW_some] <;> rfl) | (simp only [← hji3]; first | rfl | (simp [errW_none, errW_some] <;> rfl)) | (simp [*, errW_none, errW_some] <;> rfl), Rm HO_5.out, Ub⟩
 exact absurd H (by simp)

/-! ### spec_l1Most: function 157 -/
def spec_l1Most.f (a0 : Int) (a1 : Int) : Option (Int) := if a0 > a1 then (some a0) else (some a1)
theorem spec_l1Most.calls (a0 : Int) (a1 : Int) (r : Int) (w : World) (h : spec_l1Most.f a0 a1 = some r) :
 Calls Try.prog 157 #[.int .i64 a0, .int .i64 a1] w fun e w' => e = .returned (.int .i64 r) ∧ Drawn0 w w' := by
 have H := h; unfold spec_l1Most.f at H
 clear h
 replace H := Ic H; rcases H with ⟨c3, H⟩ | ⟨c3, H⟩
 · have c3b0 : decide (a1 < a0) = true := decide_eq_true c3
   clear c3
   obtain rfl := Option.some.inj H
   go_enter Try.func157, Try.ntmps157
   go_wp2
   go_ret
   exact ⟨Rs, Dr⟩
 have c3b0 : decide (a1 < a0) = false := decide_eq_false c3
 clear c3
 obtain rfl := Option.some.inj H
 go_enter Try.func157, Try.ntmps157
 go_wp2
 go_ret
 exact ⟨Rs, Dr⟩

end Go.Proofs.Ytjjajbgijncfoaa.PFnChangeGiven
