-- printed by wip/xp
import Derived.Test.YtgeoihhibglhgaaPFnPiecesHiddenx0
import Derived.Test.YtgeoihhibglhgaaPFnPiecesHiddenx2
import Derived.Test.YtgeoihhibglhgaaPFnPiecesHiddenx3
import Derived.Test.YtgeoihhibglhgaaPFnPiecesHiddenx4
set_option maxHeartbeats 8000000
set_option maxRecDepth 100000
namespace Go.Proofs.Ytgeoihhibglhgaa.PFnPiecesHidden
open Go.RowKit Go.Proofs.YtgeoihhibglhgaaW.PrintWords Go.Proofs.YtgeoihhibglhgaaW.PrintLast Go.Proofs.YtgeoihhibglhgaaW.PrintMore Go.Proofs.Ytgeoihhibglhgaa.Xmv
attribute [local go_sem] max2_int min2_int max_two min_two max_three min_three max_four min_four
set_option linter.unusedVariables false
set_option linter.unusedSimpArgs false

/-! ### spec_DrawMakePuzzle: function 77 -/
def spec_DrawMakePuzzle_in.f (k : Nat) (s0_0 : List Int) (s0_1 : Int) (s0_2 : Int) : Option (List Int × Int × Int × Int × Int) := (spec_l1Cur_one.f s0_0 s0_1 s0_2 12).bind fun bt208 => (if bt208.1 = true then ((spec_l1Cur_hidden.f k s0_0 bt208.2.1 bt208.2.2).bind fun bt211 => ((spec_l1Cur_among.f s0_0 bt211.2.1 bt211.2.2 (([(-1), 6, 7] : List Int))).bind fun bt219 => ((spec_l1Cur_among.f s0_0 bt219.2.1 bt219.2.2 (([(-1), 9999, 10000] : List Int))).bind fun bt225 => (some (bt211.1, bt219.1, bt225.1, bt225.2.1, bt225.2.2))))) else ((spec_l1Cur_hidden.f k s0_0 bt208.2.1 bt208.2.2).bind fun bt228 => ((spec_l1Cur_pick.f s0_0 bt228.2.1 bt228.2.2 7).bind fun bt233 => ((spec_l1Cur_pick.f s0_0 bt233.2.1 bt233.2.2 10000).bind fun bt236 => (some (bt228.1, bt233.1, bt236.1, bt236.2.1, bt236.2.2))))))
def spec_DrawMakePuzzle.f (k : Nat) (l0 : List Int) : Option (List Int × Int × Int) := (spec_DrawMakePuzzle_in.f k l0 0 0).bind fun t_ => some (t_.1, t_.2.1, t_.2.2.1)
theorem spec_DrawMakePuzzle.calls (k : Nat) (A0_ : Option Addr) (c0_ : Nat) (s0_0 : List Int) (r1 : List Int) (r2 : Int) (r3 : Int) (w0 : World) (hr0_ : Kd.C (Kd.int .u8) w0 A0_ s0_0.length s0_0) (hc0_ : s0_0.length ≤ c0_) (h : spec_DrawMakePuzzle.f k s0_0 = some (r1, r2, r3)) :
 Calls Try.prog 77 #[.slice A0_ s0_0.length c0_] w0 fun e w' => ∃ v0_ : Value, e = .returned (.tuple #[v0_, .int .i64 r2, .int .i64 r3]) ∧ Kd.R (Kd.int .i64) 3 w' w0.heap.size (fun _ => True) v0_ r1 ∧ Below w0.heap.size w0 w' := by
 unfold spec_DrawMakePuzzle.f at h
 obtain ⟨tt_, h0_, h⟩ := Option.bind_eq_some_iff.1 h
 obtain ⟨y0_, y1_, y2_, r4, r5⟩ := tt_
 have h := (jM h).symm
 simp only [Prod.mk.injEq] at h
 obtain ⟨e0_, e1_, e2_⟩ := h
 subst e0_
 subst e1_
 subst e2_
 obtain ⟨s0_1, es1_⟩ : ∃ s_ : Int, s_ = 0 := ⟨_, rfl⟩
 obtain ⟨s0_2, es2_⟩ : ∃ s_ : Int, s_ = 0 := ⟨_, rfl⟩
 have h : spec_DrawMakePuzzle_in.f k s0_0 s0_1 s0_2 = some (r1, r2, r3, r4, r5) := by subst es1_ es2_; exact h0_
 clear h0_
 obtain ⟨g, hg_⟩ : ∃ g_, g_ = w0.heap.size := ⟨_, rfl⟩
 obtain ⟨w, hw_⟩ : ∃ w_, w_ = w0.alloc (.cells #[.slice A0_ s0_0.length c0_, .int .i64 0, .int .u64 0] 102) := ⟨_, rfl⟩
 have hI : IsS102 w0 w g s0_0 s0_1 s0_2 := by subst hw_; subst hg_; subst es1_; subst es2_; exact ⟨A0_, c0_, blk_new _ _, jX _, hr0_⟩
 have hB : Below w0.heap.size w0 w := by subst hw_; exact jP (jU _ _) _
 have HGW_ := jA (And.intro hg_ hw_)
 have hle_ := hB.size
 clear hg_ hw_ es1_ es2_ hr0_ hc0_
 refine (show Calls Try.prog 77 #[.slice A0_ s0_0.length c0_] w0 (fun e w' => ∃ v0_ : Value, e = .returned (.tuple #[v0_, .int .i64 r2, .int .i64 r3]) ∧ Kd.R (Kd.int .i64) 3 w' w.heap.size (fun _ => True) v0_ r1 ∧ IsS102 w0 w' g s0_0 r4 r5 ∧ Below w0.heap.size w0 w' ∧ KeepBut w w' g none) from ?_).mono (fun e w' hx_ => by obtain ⟨v0_, rfl, hx1_, hx2_, hx3_, hx4_⟩ := hx_; exact ⟨v0_, rfl, jf hx1_ hle_, hx3_⟩)
 clear hle_
 have HI0 := jA hI
 have HK := jA (KeepBut.refl w g none)
 have HL := jA hB.size
 clear hI
 have HW0 := jA hB.size
 have HB := jA hB
 clear hB
 have H := h; unfold spec_DrawMakePuzzle.f at H
 clear h
 replace H := jD H
 obtain ⟨⟨t208, t209, t210⟩, A20, H⟩ := H
 have A2 := jA A20
 clear A20
 replace H := Iw H; rcases H with ⟨rfl, H⟩ | ⟨rfl, H⟩
 · replace H := jD H
   obtain ⟨⟨t211, t214, t215⟩, A40, H⟩ := H
   have A4 := jA A40
   clear A40
   obtain ⟨y216, hy216⟩ : ∃ y_ : List Int, y_ = (([(-1), 6, 7] : List Int)) := ⟨_, rfl⟩
   replace H : ((spec_l1Cur_among.f s0_0 t214 t215 y216).bind fun bt219 => ((spec_l1Cur_among.f s0_0 bt219.2.1 bt219.2.2 (([(-1), 9999, 10000] : List Int))).bind fun bt225 => (some (t211, bt219.1, bt225.1, bt225.2.1, bt225.2.2)))) = some (r1, r2, r3, r4, r5) := by first | (rw [hy216]; with_reducible exact H) | (have H2_ := (Option.bind_some _ _).symm.trans H; rw [hy216]; with_reducible exact H2_) | (have H2_ := (Option.bind_some _ _).symm.trans H; with_reducible exact H2_) | with_reducible exact H | (rw [hy216]; exact H) | exact H
   have Ny216 := jA hy216
   clear hy216
   replace H := jD H
   obtain ⟨⟨t219, t220, t221⟩, A50, H⟩ := H
   have A5 := jA A50
   clear A50
   obtain ⟨y222, hy222⟩ : ∃ y_ : List Int, y_ = (([(-1), 9999, 10000] : List Int)) := ⟨_, rfl⟩
   replace H : ((spec_l1Cur_among.f s0_0 t220 t221 y222).bind fun bt225 => (some (t211, t219, bt225.1, bt225.2.1, bt225.2.2))) = some (r1, r2, r3, r4, r5) := by first | (rw [hy222]; with_reducible exact H) | (have H2_ := (Option.bind_some _ _).symm.trans H; rw [hy222]; with_reducible exact H2_) | (have H2_ := (Option.bind_some _ _).symm.trans H; with_reducible exact H2_) | with_reducible exact H | (rw [hy222]; exact H) | exact H
   have Ny222 := jA hy222
   clear hy222
   replace H := jD H
   obtain ⟨⟨t225, t226, t227⟩, A60, H⟩ := H
   have A6 := jA A60
   clear A60
   simp only [Option.some.injEq, Prod.mk.injEq] at H
   obtain ⟨rfl, rfl, rfl, rfl, rfl⟩ := H
   go_enter Try.func77, Try.ntmps77
   go_upto_region 2 with (fail)
   (try simp only [Act.put, List.setIfInBounds_toArray, List.set_cons_zero, List.set_cons_succ])
   have hgw_ := HGW_.out
   rw [← hgw_.2, ← hgw_.1]
   clear hgw_
   go_wp2_with (first | (refine Gl 10 #[.pointer (some ⟨g, 0, none⟩), .int .i64 12] Try.func212 ?_; (with_reducible refine (spec_l1Cur_one.calls g s0_0 s0_1 s0_2 12 true t209 t210 w0 _ ?side1 ?side2 A2.out).mono ?_); (case side1 => repeat (first | (with_reducible first | exact HI0.out | apply Xs | apply qG | apply qH) | exact HI0.out)); (case side2 => repeat (first | (with_reducible first | exact HB.out | apply Xa | refine jH ?_ (qE HI0.out)) | exact HB.out)); rintro e w7 ⟨rfl, hi, hb, hk⟩; refine ⟨_, rfl, ?_⟩; replace HK := jA (jS (by repeat (first | (with_reducible first | exact HK.out | apply jG | apply Xk) | exact HK.out)) hk (.inl rfl)); replace HB := jA (hb); replace HI0 := jA (hi); clear hb hk hi) | (refine Gl 12 #[.pointer (some ⟨g, 0, none⟩)] Try.func213 ?_; (with_reducible refine (spec_l1Cur_hidden.calls k g s0_0 t209 t210 t211 t214 t215 w0 _ ?side1 ?side2 A4.out).mono ?_); (case side1 => repeat (first | (with_reducible first | exact HI0.out | apply Xs | apply qG | apply qH) | exact HI0.out)); (case side2 => repeat (first | (with_reducible first | exact HB.out | apply Xa | refine jH ?_ (qE HI0.out)) | exact HB.out)); rintro e w8 ⟨v212, rfl, ho0, hi, hb, hk⟩; refine ⟨_, rfl, ?_⟩; have HO213 := jA (jf ho0 (je (w := w) (g := g) (row := none) (by repeat (first | (with_reducible first | exact HK.out | apply jG | apply Xk) | exact HK.out)))); replace HK := jA (jS (by repeat (first | (with_reducible first | exact HK.out | apply jG | apply Xk) | exact HK.out)) hk (.inl rfl)); replace HB := jA (hb); replace HI0 := jA (hi); clear hb hk hi ho0) | ((with_reducible refine gate_dst (N := 14) rfl ?_); refine Kd.R_lit (Kd.int .i64) _ 3 ?hg (N := 14) ?hd (xs := ([(-1), 6, 7] : List Int)) (inner := [.int .i64 (-1), .int .i64 6, .int .i64 7]) (ok := fun _ => True) (okp := fun _ => True) ?hr ?hp (fun _ hk => hk) trivial (jU _ _) (jX _) (by simp) ?_; (case hd => rfl); (case hg => rfl); (case hr => first | (go_simp; done) | (go_simp; rfl)); (case hp => exact (Reps.one (show Kd.M (Kd.int .i64) _ _ _ (-1) [.int .i64 (-1)] from rfl) (Reps.one (show Kd.M (Kd.int .i64) _ _ _ 6 [.int .i64 6] from rfl) (Reps.one (show Kd.M (Kd.int .i64) _ _ _ 7 [.int .i64 7] from rfl) (Reps.none _ _))))); intro v217 w9 ho10 hb hg_ hnew_; clear hg_ hnew_; (first | rw [← Ny216.out] at ho10 | (simp only [Int.reduceToNat] at ho10; rw [← Ny216.out] at ho10)); have HO218 := jA (jf (Kd.R_new' ho10 (jr (Rm HO213.out))) (je (w := w) (g := g) (row := none) (by repeat (first | (with_reducible first | exact HK.out | apply jG | apply Xk) | exact HK.out)))); replace HO213 := jA (Kd.R_elder' (Rm HO213.out) (Kd.R_base ho10) hb); replace HK := jA (jS (by repeat (first | (with_reducible first | exact HK.out | apply jG | apply Xk) | exact HK.out)) (jb hb g none) (.inl rfl)); replace HB := jA (jB (by repeat (first | (with_reducible first | exact HB.out | apply Xa | refine jH ?_ (qE HI0.out)) | exact HB.out)) hb); replace HI0 := jA (qA (by repeat (first | (with_reducible first | exact HI0.out | apply Xs | apply qG | apply qH) | exact HI0.out)) hb); clear hb ho10; obtain ⟨Ao11, co11, eo11⟩ := jq HO218.out; subst eo11) | (refine Gl 15 #[.pointer (some ⟨g, 0, none⟩), .slice Ao11 y216.length co11] Try.func192 ?_; (with_reducible refine (spec_l1Cur_among.calls g s0_0 t214 t215 _ _ y216 t219 t220 t221 w0 _ ?side1 ?side2 (Cm (Kd.R_reads' HO218.out).2.2) ((Kd.R_reads' HO218.out).2.1) ?side5 A5.out).mono ?_); (case side1 => repeat (first | (with_reducible first | exact HI0.out | apply Xs | apply qG | apply qH) | exact HI0.out)); (case side2 => repeat (first | (with_reducible first | exact HB.out | apply Xa | refine jH ?_ (qE HI0.out)) | exact HB.out)); (case side5 => exact far_slice (IsS102.own_ne HI0.out HO218.out (by decide))); rintro e w12 ⟨rfl, hi, hb, hk⟩; refine ⟨_, rfl, ?_⟩; replace HO213 := jA (jW (jh (qB (show IsS102 w0 _ g s0_0 t214 t215 from by repeat (first | (with_reducible first | exact HI0.out | apply Xs | apply qG | apply qH) | exact HI0.out)) (Rm HO213.out) (by decide)) hk (fun _ h => h.2)) (fun _ h => h.1)); replace HO218 := jA (jW (jh (qB (show IsS102 w0 _ g s0_0 t214 t215 from by repeat (first | (with_reducible first | exact HI0.out | apply Xs | apply qG | apply qH) | exact HI0.out)) (Rm HO218.out) (by decide)) hk (fun _ h => h.2)) (fun _ h => h.1)); replace HK := jA (jS (by repeat (first | (with_reducible first | exact HK.out | apply jG | apply Xk) | exact HK.out)) hk (.inl rfl)); replace HB := jA (hb); replace HI0 := jA (hi); clear hb hk hi) | ((with_reducible refine gate_dst (N := 17) rfl ?_); refine Kd.R_lit (Kd.int .i64) _ 3 ?hg (N := 17) ?hd (xs := ([(-1), 9999, 10000] : List Int)) (inner := [.int .i64 (-1), .int .i64 9999, .int .i64 10000]) (ok := fun _ => True) (okp := fun _ => True) ?hr ?hp (fun _ hk => hk) trivial (jU _ _) (jX _) (by simp) ?_; (case hd => rfl); (case hg => rfl); (case hr => first | (go_simp; done) | (go_simp; rfl)); (case hp => exact (Reps.one (show Kd.M (Kd.int .i64) _ _ _ (-1) [.int .i64 (-1)] from rfl) (Reps.one (show Kd.M (Kd.int .i64) _ _ _ 9999 [.int .i64 9999] from rfl) (Reps.one (show Kd.M (Kd.int .i64) _ _ _ 10000 [.int .i64 10000] from rfl) (Reps.none _ _))))); intro v223 w13 ho14 hb hg_ hnew_; clear hg_ hnew_; (first | rw [← Ny222.out] at ho14 | (simp only [Int.reduceToNat] at ho14; rw [← Ny222.out] at ho14)); have HO224 := jA (jf (Kd.R_new' (Kd.R_new' ho14 (jr (Rm HO213.out))) (jr (Rm HO218.out))) (je (w := w) (g := g) (row := none) (by repeat (first | (with_reducible first | exact HK.out | apply jG | apply Xk) | exact HK.out)))); replace HO213 := jA (Kd.R_elder' (Rm HO213.out) (Kd.R_base ho14) hb); replace HO218 := jA (Kd.R_elder' (Rm HO218.out) (Kd.R_base ho14) hb); replace HK := jA (jS (by repeat (first | (with_reducible first | exact HK.out | apply jG | apply Xk) | exact HK.out)) (jb hb g none) (.inl rfl)); replace HB := jA (jB (by repeat (first | (with_reducible first | exact HB.out | apply Xa | refine jH ?_ (qE HI0.out)) | exact HB.out)) hb); replace HI0 := jA (qA (by repeat (first | (with_reducible first | exact HI0.out | apply Xs | apply qG | apply qH) | exact HI0.out)) hb); clear hb ho14; obtain ⟨Ao15, co15, eo15⟩ := jq HO224.out; subst eo15) | (refine Gl 18 #[.pointer (some ⟨g, 0, none⟩), .slice Ao15 y222.length co15] Try.func192 ?_; (with_reducible refine (spec_l1Cur_among.calls g s0_0 t220 t221 _ _ y222 t225 t226 t227 w0 _ ?side1 ?side2 (Cm (Kd.R_reads' HO224.out).2.2) ((Kd.R_reads' HO224.out).2.1) ?side5 A6.out).mono ?_); (case side1 => repeat (first | (with_reducible first | exact HI0.out | apply Xs | apply qG | apply qH) | exact HI0.out)); (case side2 => repeat (first | (with_reducible first | exact HB.out | apply Xa | refine jH ?_ (qE HI0.out)) | exact HB.out)); (case side5 => exact far_slice (IsS102.own_ne HI0.out HO224.out (by decide))); rintro e w16 ⟨rfl, hi, hb, hk⟩; refine ⟨_, rfl, ?_⟩; replace HO213 := jA (jW (jh (qB (show IsS102 w0 _ g s0_0 t220 t221 from by repeat (first | (with_reducible first | exact HI0.out | apply Xs | apply qG | apply qH) | exact HI0.out)) (Rm HO213.out) (by decide)) hk (fun _ h => h.2)) (fun _ h => h.1)); replace HO218 := jA (jW (jh (qB (show IsS102 w0 _ g s0_0 t220 t221 from by repeat (first | (with_reducible first | exact HI0.out | apply Xs | apply qG | apply qH) | exact HI0.out)) (Rm HO218.out) (by decide)) hk (fun _ h => h.2)) (fun _ h => h.1)); replace HO224 := jA (jW (jh (qB (show IsS102 w0 _ g s0_0 t220 t221 from by repeat (first | (with_reducible first | exact HI0.out | apply Xs | apply qG | apply qH) | exact HI0.out)) (Rm HO224.out) (by decide)) hk (fun _ h => h.2)) (fun _ h => h.1)); replace HK := jA (jS (by repeat (first | (with_reducible first | exact HK.out | apply jG | apply Xk) | exact HK.out)) hk (.inl rfl)); replace HB := jA (hb); replace HI0 := jA (hi); clear hb hk hi))
   go_ret3
   exact ⟨_, Re, by (with_reducible repeat apply Xq); exact jW HO213.out (fun _ hk => trivial), by repeat (first | (with_reducible first | exact HI0.out | apply Xs | apply qG | apply qH) | exact HI0.out), by repeat (first | (with_reducible first | exact HB.out | apply Xa | refine jH ?_ (qE HI0.out)) | exact HB.out), by repeat (first | (with_reducible first | exact HK.out | apply jG | apply Xk) | exact HK.out)⟩
 replace H := jD H
 obtain ⟨⟨t228, t231, t232⟩, A170, H⟩ := H
 have A17 := jA A170
 clear A170
 replace H := jD H
 obtain ⟨⟨t233, t234, t235⟩, A180, H⟩ := H
 have A18 := jA A180
 clear A180
 replace H := jD H
 obtain ⟨⟨t236, t237, t238⟩, A190, H⟩ := H
 have A19 := jA A190
 clear A190
 simp only [Option.some.injEq, Prod.mk.injEq] at H
 obtain ⟨rfl, rfl, rfl, rfl, rfl⟩ := H
 go_enter Try.func77, Try.ntmps77
 go_upto_region 2 with (fail)
 (try simp only [Act.put, List.setIfInBounds_toArray, List.set_cons_zero, List.set_cons_succ])
 have hgw_ := HGW_.out
 rw [← hgw_.2, ← hgw_.1]
 clear hgw_
 go_wp2_with (first | (refine Gl 10 #[.pointer (some ⟨g, 0, none⟩), .int .i64 12] Try.func212 ?_; (with_reducible refine (spec_l1Cur_one.calls g s0_0 s0_1 s0_2 12 false t209 t210 w0 _ ?side1 ?side2 A2.out).mono ?_); (case side1 => repeat (first | (with_reducible first | exact HI0.out | apply Xs | apply qG | apply qH) | exact HI0.out)); (case side2 => repeat (first | (with_reducible first | exact HB.out | apply Xa | refine jH ?_ (qE HI0.out)) | exact HB.out)); rintro e w20 ⟨rfl, hi, hb, hk⟩; refine ⟨_, rfl, ?_⟩; replace HK := jA (jS (by repeat (first | (with_reducible first | exact HK.out | apply jG | apply Xk) | exact HK.out)) hk (.inl rfl)); replace HB := jA (hb); replace HI0 := jA (hi); clear hb hk hi) | (refine Gl 20 #[.pointer (some ⟨g, 0, none⟩)] Try.func213 ?_; (with_reducible refine (spec_l1Cur_hidden.calls k g s0_0 t209 t210 t228 t231 t232 w0 _ ?side1 ?side2 A17.out).mono ?_); (case side1 => repeat (first | (with_reducible first | exact HI0.out | apply Xs | apply qG | apply qH) | exact HI0.out)); (case side2 => repeat (first | (with_reducible first | exact HB.out | apply Xa | refine jH ?_ (qE HI0.out)) | exact HB.out)); rintro e w21 ⟨v229, rfl, ho0, hi, hb, hk⟩; refine ⟨_, rfl, ?_⟩; have HO230 := jA (jf ho0 (je (w := w) (g := g) (row := none) (by repeat (first | (with_reducible first | exact HK.out | apply jG | apply Xk) | exact HK.out)))); replace HK := jA (jS (by repeat (first | (with_reducible first | exact HK.out | apply jG | apply Xk) | exact HK.out)) hk (.inl rfl)); replace HB := jA (hb); replace HI0 := jA (hi); clear hb hk hi ho0) | (refine Gl 22 #[.pointer (some ⟨g, 0, none⟩), .int .i64 7] Try.func214 ?_; (with_reducible refine (spec_l1Cur_pick.calls g s0_0 t231 t232 7 t233 t234 t235 w0 _ ?side1 ?side2 A18.out).mono ?_); (case side1 => repeat (first | (with_reducible first | exact HI0.out | apply Xs | apply qG | apply qH) | exact HI0.out)); (case side2 => repeat (first | (with_reducible first | exact HB.out | apply Xa | refine jH ?_ (qE HI0.out)) | exact HB.out)); rintro e w22 ⟨rfl, hi, hb, hk⟩; refine ⟨_, rfl, ?_⟩; replace HO230 := jA (jW (jh (qB (show IsS102 w0 _ g s0_0 t231 t232 from by repeat (first | (with_reducible first | exact HI0.out | apply Xs | apply qG | apply qH) | exact HI0.out)) (Rm HO230.out) (by decide)) hk (fun _ h => h.2)) (fun _ h => h.1)); replace HK := jA (jS (by repeat (first | (with_reducible first | exact HK.out | apply jG | apply Xk) | exact HK.out)) hk (.inl rfl)); replace HB := jA (hb); replace HI0 := jA (hi); clear hb hk hi) | (refine Gl 24 #[.pointer (some ⟨g, 0, none⟩), .int .i64 10000] Try.func214 ?_; (with_reducible refine (spec_l1Cur_pick.calls g s0_0 t234 t235 10000 t236 t237 t238 w0 _ ?side1 ?side2 A19.out).mono ?_); (case side1 => repeat (first | (with_reducible first | exact HI0.out | apply Xs | apply qG | apply qH) | exact HI0.out)); (case side2 => repeat (first | (with_reducible first | exact HB.out | apply Xa | refine jH ?_ (qE HI0.out)) | exact HB.out)); rintro e w23 ⟨rfl, hi, hb, hk⟩; refine ⟨_, rfl, ?_⟩; replace HO230 := jA (jW (jh (qB (show IsS102 w0 _ g s0_0 t234 t235 from by repeat (first | (with_reducible first | exact HI0.out | apply Xs | apply qG | apply qH) | exact HI0.out)) (Rm HO230.out) (by decide)) hk (fun _ h => h.2)) (fun _ h => h.1)); replace HK := jA (jS (by repeat (first | (with_reducible first | exact HK.out | apply jG | apply Xk) | exact HK.out)) hk (.inl rfl)); replace HB := jA (hb); replace HI0 := jA (hi); clear hb hk hi))
 go_ret3
 exact ⟨_, Re, Rm HO230.out, by repeat (first | (with_reducible first | exact HI0.out | apply Xs | apply qG | apply qH) | exact HI0.out), by repeat (first | (with_reducible first | exact HB.out | apply Xa | refine jH ?_ (qE HI0.out)) | exact HB.out), by repeat (first | (with_reducible first | exact HK.out | apply jG | apply Xk) | exact HK.out)⟩

/-! ### impl_IsHidden: function 81 -/
def impl_IsHidden.f (k : Nat) (l0 : List Int) : Option (Bool) := if (l0.length : Int) ≤ 4 then ((impl_areWithin.f l0 1 6).bind fun t239 => (if t239 = true then ((slices_IsSorted_int_int.f k l0).bind fun t240 => (some t240)) else (some false))) else (some false)
theorem impl_IsHidden.calls (k : Nat) (A0 : Option Addr) (c0 : Nat) (l0 : List Int) (r : Bool) (w : World) (hr0 : Kd.C (Kd.int .i64) w A0 l0.length l0) (hc0 : l0.length ≤ c0) (h : impl_IsHidden.f k l0 = some r) :
 Calls Try.prog 81 #[.slice A0 l0.length c0] w fun e w' => e = .returned (.bool r) ∧ Below w.heap.size w w' := by
 have HR0 := jA hr0
 have HC0 := jA hc0
 clear hr0 hc0
 have HB := jA (jU w.heap.size w)
 have H := h; unfold impl_IsHidden.f at H
 clear h
 replace H := Ic H; rcases H with ⟨c2, H⟩ | ⟨c2, H⟩
 · have c2b0 := jK c2
   have c2b1 : decide (l0.length ≤ 4) = true := jK (by omega)
   clear c2
   replace H := jD H
   obtain ⟨t239, A30, H⟩ := H
   have A3 := jA A30
   clear A30
   replace H := Iw H; rcases H with ⟨rfl, H⟩ | ⟨rfl, H⟩
   · replace H := jD H
     obtain ⟨t240, A50, H⟩ := H
     have A5 := jA A50
     clear A50
     obtain rfl := jM H
     go_enter Try.func81, Try.ntmps81
     go_wp2_with (first | (go_at_call 178; (with_reducible refine (impl_areWithin.calls _ _ l0 1 6 true _ (Cm HR0.out) HC0.out A3.out).mono ?_); rintro e w6 ⟨rfl, hb⟩; replace HB := jA (jB Ub hb); clear hb) | (go_at_call 206; (with_reducible refine (slices_IsSorted_int_int.calls k _ _ l0 t240 _ (Cm (jY HR0.out HB.out)) HC0.out A5.out).mono ?_); rintro e w' ⟨rfl, ⟨nd, rfl⟩⟩))
     go_ret
     exact ⟨Re, Ub⟩
   obtain rfl := jM H
   go_enter Try.func81, Try.ntmps81
   go_wp2_with (first | (go_at_call 178; (with_reducible refine (impl_areWithin.calls _ _ l0 1 6 false _ (Cm HR0.out) HC0.out A3.out).mono ?_); rintro e w7 ⟨rfl, hb⟩; replace HB := jA (jB Ub hb); clear hb))
   go_ret
   exact ⟨Re, Ub⟩
 have c2b0 := jV c2
 have c2b1 : decide (l0.length ≤ 4) = false := jV (by omega)
 clear c2
 obtain rfl := jM H
 go_enter Try.func81, Try.ntmps81
 go_wp2
 go_ret
 exact ⟨Re, Ub⟩

/-! ### word delete -/
/-- A block behind stores of some cells one behind the other. -/
theorem blk_cells {g : Nat} {t : TypeId} : ∀ (vs : List Value) (o : Nat) (w : World) (cs : Array Value), w.heap[g]? = some (.cells cs t (0, 0)) → ∃ cs', (w.setCells g o vs).heap[g]? = some (.cells cs' t (0, 0)) ∧ cs'.size = cs.size ∧
    ∀ j, j < cs.size → cs'[j]? = if o ≤ j ∧ j < o + vs.length then vs[j - o]? else cs[j]?
  | [], o, w, cs, h => ⟨cs, h, rfl, fun j hj => by rw [if_neg (by simp <;> omega)]⟩
  | v :: vs, o, w, cs, h => by
    obtain ⟨cs', h1, h2, h3⟩ := blk_cells vs (o + 1) (w.setCell ⟨g, o, none⟩ v) _ (blk_set h o v)
    refine ⟨cs', h1, by rw [h2]; simp, fun j hj => ?_⟩
    rw [h3 j (by simpa using hj)]
    by_cases e1 : o + 1 ≤ j ∧ j < o + 1 + vs.length
    · rw [if_pos e1, if_pos (by simp; omega), show j - o = (j - (o + 1)) + 1 by omega, List.getElem?_cons_succ]
    · rw [if_neg e1]
      by_cases e2 : j = o
      · subst e2
        rw [if_pos (by simp), Nat.sub_self]
        simp [hj]
      · rw [if_neg (by simp; omega), Array.getElem?_setIfInBounds_ne (by omega)]
theorem own_cell (w : World) (a : Addr) (u : Value) : w.grownBy (w.setCell a u) (some a.block) :=
  ⟨rfl, rfl, rfl, by simp, fun i hi hne => Below.heap_setCell w a u i (fun e => hne (by rw [e]))⟩
theorem own_cells {g : Nat} : ∀ (vs : List Value) (o : Nat) (w : World), w.grownBy (w.setCells g o vs) (some g)
  | [], o, w => World.grownBy.refl _ _
  | v :: vs, o, w => (own_cell w ⟨g, o, none⟩ v).trans (own_cells vs (o + 1) _)
/-- What a row of one's own holds behind the taking out of element i: its cells moved, the last ones cleared. -/
theorem own_cut {w : World} {base e sz g n cap i : Nat} {xs zs : List Value} (HO : w.ownsRow base e sz (.slice (some ⟨g, 0, none⟩) n cap) n xs) (hi : i < n) (hz : zs.length = sz) :
    ((w.setCells g (i * sz) (xs.drop ((i + 1) * sz))).setCells g ((n - 1) * sz) zs).ownsRow base e sz (.slice (some ⟨g, 0, none⟩) (n - 1) cap) (n - 1) (xs.take (i * sz) ++ xs.drop ((i + 1) * sz)) ∧ w.grownBy ((w.setCells g (i * sz) (xs.drop ((i + 1) * sz))).setCells g ((n - 1) * sz) zs) (some g) := by
  obtain ⟨hl, hx⟩ := HO
  rcases hx with ⟨h, _⟩ | ⟨g', cap', cur, h, hb, hh, hnc, hcm, hcs, hct⟩
  · cases h
  injection h with h1 h2 h3
  injection h1 with h1
  injection h1 with h1
  subst h1
  subst h3
  have e1 : (i + 1) * sz = i * sz + sz := by rw [Nat.add_mul, Nat.one_mul]
  have e2 : n * sz = (n - 1) * sz + sz := by
    have : n = (n - 1) + 1 := by omega
    rw [this, Nat.add_mul, Nat.one_mul]; simp
  have e3 : i * sz ≤ (n - 1) * sz := Nat.mul_le_mul_right _ (by omega)
  have e4 : n * sz ≤ cap * sz := Nat.mul_le_mul_right _ hnc
  obtain ⟨c1, b1, s1, k1⟩ := blk_cells (xs.drop ((i + 1) * sz)) (i * sz) w cur hh
  obtain ⟨c2, b2, s2, k2⟩ := blk_cells zs ((n - 1) * sz) _ c1 b1
  have hld : (xs.drop ((i + 1) * sz)).length = (n - 1) * sz - i * sz := by rw [List.length_drop, hl]; omega
  refine ⟨⟨?_, .inr ⟨g, cap, c2, rfl, hb, b2, by omega, hcm, by rw [s2, s1, hcs], ?_⟩⟩, ?_⟩
  · rw [List.length_append, List.length_take, hld, hl]; omega
  · apply List.ext_getElem?
    intro j
    by_cases hj : j < (n - 1) * sz
    · rw [List.getElem?_take_of_lt hj, Array.getElem?_toList, k2 j (by omega), if_neg (by omega), k1 j (by omega)]
      by_cases hj2 : j < i * sz
      · rw [if_neg (by omega), List.getElem?_append_left (by rw [List.length_take, hl]; omega), List.getElem?_take_of_lt hj2, ← hct, List.getElem?_take_of_lt (by omega), Array.getElem?_toList]
      · rw [if_pos (by omega), List.getElem?_append_right (by rw [List.length_take, hl]; omega), List.length_take, hl, Nat.min_eq_left (by omega)]
    · rw [List.getElem?_eq_none (by rw [List.length_take]; omega), List.getElem?_eq_none (by rw [List.length_append, List.length_take, hld, hl]; omega)]
  · exact World.grownBy.trans (own_cells _ _ _) (own_cells _ _ _)

/-- 'clear' of one element. -/
theorem run_clear_one {P : Program} (w : World) (t e ty : TypeId) (z : Value) (zs : List Value) (ht : P.underlying t = some (.slice e)) (hv : ∀ w, (zeroValue e).run P w = .ok z w) (hz : (Builtin.zeroCells z.cells 1).toList = zs) (h1 : ∀ v ∈ zs, v.oneCell' = true) (b o c : Nat)
    (hc : ∀ j, j < zs.length → (w.cell? ⟨b, o + j, none⟩).isSome = true) (hf : ∀ j, j < zs.length → w.frozen? ⟨b, o + j, none⟩ = false) :
    (Builtin.clear_ #[t] ty #[.slice (some ⟨b, o, none⟩) 1 c]).run P w = .ok (.tuple #[]) (w.setCells b o zs) := by
  have hst := run_storeCells_cells (P := P) b o zs 0 w (by simpa using hc) (by simpa using hf) h1
  simp only [Nat.add_zero] at hst
  simp [Builtin.clear_, run_underlying ht, hv, hz, hst]
theorem own_frozen {w : World} {base e sz g n cap : Nat} {xs : List Value} (HO : w.ownsRow base e sz (.slice (some ⟨g, 0, none⟩) n cap) n xs) : ∀ j, w.frozen? ⟨g, j, none⟩ = false := by
  intro j
  rcases HO.2 with ⟨h, _⟩ | ⟨g', cap', cur, h, _, hh, _⟩
  · cases h
  · injection h with h1
    injection h1 with h1
    injection h1 with h1
    subst h1
    simp [World.frozen?, hh]
theorem reps_erase {α : Type} {R : α → List Value → Prop} {sz : Nat} {ps : List α} {cs : List Value} (h : Reps R sz ps cs) {i : Nat} (hi : i < ps.length) : Reps R sz (ps.eraseIdx i) (cs.take (i * sz) ++ cs.drop ((i + 1) * sz)) := by
  obtain ⟨hl, hr⟩ := h
  have e1 : (i + 1) * sz = i * sz + sz := by rw [Nat.add_mul, Nat.one_mul]
  have e2 : (i + 1) * sz ≤ ps.length * sz := Nat.mul_le_mul_right _ hi
  have e3 : (ps.length - 1) * sz = ps.length * sz - sz := by rw [Nat.sub_mul, Nat.one_mul]
  refine ⟨?_, fun j p hj => ?_⟩
  · rw [List.length_append, List.length_take, List.length_drop, List.length_eraseIdx_of_lt hi, hl, e3]; omega
  · rw [List.getElem?_eraseIdx] at hj
    by_cases c : j < i
    · rw [if_pos c] at hj
      have e4 : (j + 1) * sz ≤ i * sz := Nat.mul_le_mul_right _ c
      have e5 : (j + 1) * sz = j * sz + sz := by rw [Nat.add_mul, Nat.one_mul]
      have e6 : ((cs.take (i * sz) ++ cs.drop ((i + 1) * sz)).drop (j * sz)).take sz = (cs.drop (j * sz)).take sz := by
        rw [List.drop_append_of_le_length (by rw [List.length_take]; omega), List.take_append_of_le_length (by rw [List.length_drop, List.length_take]; omega), List.drop_take, List.take_take, Nat.min_eq_left (by omega)]
      rw [e6]; exact hr j p hj
    · rw [if_neg c] at hj
      have e4 : i * sz ≤ j * sz := Nat.mul_le_mul_right _ (by omega)
      have e6 : ((cs.take (i * sz) ++ cs.drop ((i + 1) * sz)).drop (j * sz)).take sz = (cs.drop ((j + 1) * sz)).take sz := by
        rw [List.drop_append, List.drop_eq_nil_of_le (by rw [List.length_take]; omega), List.nil_append, List.drop_drop, List.length_take, hl, Nat.min_eq_left (by omega)]
        congr 2
        rw [Nat.add_mul j 1 sz]; omega
      rw [e6]; exact hr (j + 1) p hj


/-! ### word hidden -/
-- USES delete
/-- The lists that begin so, with d more pieces at most, none less than p, in order. -/
def hidL : Nat → List Int → Int → List (List Int)
  | 0, l, _ => [l]
  | d + 1, l, p => l :: (List.range (7 - p).toNat).flatMap fun (i : Nat) => hidL d (l ++ [p + (i : Int)]) (p + (i : Int))
/-- Those that go on with p or more. -/
def hidR (d : Nat) (l : List Int) (p : Int) : List (List Int) := (List.range (7 - p).toNat).flatMap fun (i : Nat) => hidL d (l ++ [p + (i : Int)]) (p + (i : Int))
theorem hidR_step (d : Nat) (l : List Int) (p : Int) (h : p ≤ 6) : hidR d l p = hidL d (l ++ [p]) p ++ hidR d l (p + 1) := by
  unfold hidR
  rw [show (7 - p).toNat = (7 - (p + 1)).toNat + 1 by omega, List.range_succ_eq_map, List.flatMap_cons, List.flatMap_map]
  simp only [Int.ofNat_zero, Int.natCast_zero, Int.add_zero, Nat.succ_eq_add_one, Int.natCast_add, Int.natCast_one]
  congr 1
  congr 1
  funext i
  rw [show p + ((i : Int) + 1) = p + 1 + (i : Int) by omega]
theorem hidR_end (d : Nat) (l : List Int) (p : Int) (h : 6 < p) : hidR d l p = [] := by
  unfold hidR
  rw [show (7 - p).toNat = 0 by omega]
  rfl

/-- A step of a region, whatever stands for its being left out. -/
theorem step_E {c : Prop} [Decidable c] {X Y E : Prop} (hc : c) (h : if c then X else Y) : if c then X else E := by
  rw [if_pos hc] at h ⊢
  exact h
/-- A row of one number. -/
theorem C_one {W : World} {b : Nat} {q : Int} (h : W.cell? ⟨b, 0, none⟩ = some (.int .i64 q)) : Kd.C (Kd.int .i64) W (some ⟨b, 0, none⟩) 1 [q] := by
  refine ⟨rfl, by simp, fun _ => ⟨_, rfl, fun j p hj => ?_⟩⟩
  match j, hj with
  | 0, hj =>
    obtain rfl := jM hj
    exact ⟨[.int .i64 q], rfl, rfl, fun i u hu => by
      match i, hu with
      | 0, hu => obtain rfl := jM hu; exact h⟩


/-! ### impl_MakePuzzle_1: function 215 -/
-- GIVEN loop.example/g01305/impl.MakePuzzle$1 raw=1
-- USES hidden
def nxtZ (z : Int) : Int := (z * 179 + 2081) % 10007
theorem nxtZ_in (z : Int) : 0 ≤ nxtZ z ∧ nxtZ z ≤ 10006 := by unfold nxtZ; omega
set_option maxHeartbeats 2000000 in
theorem next_1 (z nz : Int) (hz : 0 ≤ z ∧ z ≤ 10006) (hnz : nxtZ z = nz) (gS : Nat) (W : World) (hS : W.heap[gS]? = some (.cells #[.int .i64 z] 3 (0, 0))) :
    Calls Try.prog 215 #[.pointer (some ⟨gS, 0, none⟩)] W fun e w' => e = .returned (.int .i64 nz) ∧ w' = W.setCell ⟨gS, 0, none⟩ (.int .i64 nz) := by
  have hw1 : IntKind.i64.wrap (z * 179) = z * 179 := (IntKind.wrap_i64 _).trans (by omega)
  have hw2 : IntKind.i64.wrap (z * 179 + 2081) = z * 179 + 2081 := (IntKind.wrap_i64 _).trans (by omega)
  have hv1 : wrap64 (z * 179) = z * 179 := by unfold wrap64; omega
  have hv2 : wrap64 (z * 179 + 2081) = z * 179 + 2081 := by unfold wrap64; omega
  have ht : Int.tmod (z * 179 + 2081) 10007 = nz := by rw [Int.tmod_eq_emod_of_nonneg (by omega)]; exact hnz
  have HS := jA hS
  have hc := (jE hS 0).trans (show (#[.int .i64 z] : Array Value)[0]? = some (.int .i64 z) from rfl)
  have hf := jF hS 0
  have HP := jA (jp hS 0 (.int .i64 nz) (cs' := #[.int .i64 nz]) rfl)
  have hc2 : (W.setCell ⟨gS, 0, none⟩ (.int .i64 nz)).cell? ⟨gS, 0, none⟩ = some (.int .i64 nz) := (jE HP.out 0).trans rfl
  clear hS hz hnz
  go_enter Try.func215, Try.ntmps215
  go_wp2
  go_ret
  exact ⟨rfl, rfl⟩


/-! ### impl_clueOf: function 216 -/
def impl_clueOf.l0 : Nat → Int → Int → List Int → Int → Int → Option (Int × Int × Int)
 | 0, _, _, _, _, _ => none
 | k + 1, x1, x7, x41, x42, x43 => if x43 < x42 then (if 0 ≤ x43 then (if x43 < (x41.length : Int) then (if (rd x41 x43) = x1 then (impl_clueOf.l0 k x1 (wrap64 (x7 + 1)) x41 x42 (wrap64 (x43 + 1))) else (impl_clueOf.l0 k x1 x7 x41 x42 (wrap64 (x43 + 1)))) else (none)) else (none)) else (some (5, x1, x7))
def impl_clueOf.f (k : Nat) (a0 : Int) (a1 : Int) (l2 : List Int) : Option (Int × Int × Int) := if a0 = 0 then (some (0, (l2.length : Int), 0)) else (if a0 = 1 then ((impl_total.f k l2).bind fun t242 => (some (1, t242, 0))) else (if a0 = 2 then ((impl_waysOf.f k l2 a1).bind fun t243 => (some (2, a1, mn 1 t243))) else (if a0 = 3 then ((impl_run.f k l2).bind fun t244 => (some (3, t244, 0))) else (if a0 = 4 then ((impl_waysOf.f k l2 a1).bind fun t245 => (some (4, a1, t245))) else (impl_clueOf.l0 k a1 0 l2 (l2.length : Int) 0)))))
theorem impl_clueOf.calls (k : Nat) (a0 : Int) (a1 : Int) (A2 : Option Addr) (c2 : Nat) (l2 : List Int) (r1 : Int) (r2 : Int) (r3 : Int) (w : World) (hr2 : Kd.C (Kd.int .i64) w A2 l2.length l2) (hc2 : l2.length ≤ c2) (h : impl_clueOf.f k a0 a1 l2 = some (r1, r2, r3)) :
 Calls Try.prog 216 #[.int .i64 a0, .int .i64 a1, .slice A2 l2.length c2] w fun e w' => e = .returned (.agg #[.int .i64 r1, .int .i64 r2, .int .i64 r3]) ∧ Below w.heap.size w w' := by
 have hu58 := Try.underlying58
 have HR2 := jA hr2
 have HC2 := jA hc2
 clear hr2 hc2
 have HB := jA (jU w.heap.size w)
 have H := h; unfold impl_clueOf.f at H
 clear h
 replace H := Ic H; rcases H with ⟨c4, H⟩ | ⟨c4, H⟩
 · have c4b0 : (a0 == 0) = true := beq_iff_eq.mpr c4
   have c4b1 := bne_eq_false_iff_eq.mpr c4
   clear c4
   simp only [Option.some.injEq, Prod.mk.injEq] at H
   obtain ⟨rfl, rfl, rfl⟩ := H
   go_enter Try.func216, Try.ntmps216
   go_wp2_with (first | ((with_reducible refine gate_dst (N := 6) rfl ?_); refine box_event ?hg (N := 6) ?hd (cs := #[.int .i64 0, .int .i64 0, .int .i64 0]) (t := 58) ?hr ?_; (case hd => rfl); (case hg => rfl); (case hr => first | (go_simp; done) | (go_simp; rfl)); intro gb241 hg w5 hbox hb; have BK241 := jA (hbox); have GW241 := jA ((by rw [hg]; exact (jL Ub) : w.heap.size ≤ gb241)); have GE241 := jA ((by rw [hg]; exact (jL Ub) : w.heap.size ≤ gb241)); replace HB := jA (jB Ub hb); clear hb hbox hg; have hcz6_0 : w5.cell? ⟨gb241, 0, none⟩ = some (.int .i64 0) := (jE BK241.out 0).trans rfl; have hcz6_1 : w5.cell? ⟨gb241, 1, none⟩ = some (.int .i64 0) := (jE BK241.out 1).trans rfl; have hcz6_2 : w5.cell? ⟨gb241, 2, none⟩ = some (.int .i64 0) := (jE BK241.out 2).trans rfl; have hfz6_0 := jF BK241.out 0; have hfz6_1 := jF BK241.out 1; have hfz6_2 := jF BK241.out 2))
   refine bodyPost_ret (results_cell_row rfl _ _ gb241 58 #[.int .i64 0, .int .i64 (l2.length : Int), .int .i64 0] (0, 0) _ rfl (by (with_reducible repeat refine Xg ?_); refine jp (cs := #[.int .i64 0, .int .i64 (l2.length : Int), .int .i64 0]) ?_ 2 _ rfl; (with_reducible repeat refine Xg ?_); refine jp (cs := #[.int .i64 0, .int .i64 0, .int .i64 0]) ?_ 1 _ rfl; (with_reducible repeat refine Xg ?_); refine jp (cs := #[.int .i64 0, .int .i64 0, .int .i64 0]) ?_ 0 _ rfl; (with_reducible repeat refine Xg ?_); exact BK241.out) Try.underlying58 rfl (by kernel_rfl)) rfl ?_
   exact ⟨Re, Ub⟩
 have c4b0 : (a0 == 0) = false := beq_eq_false_iff_ne.mpr c4
 have c4b1 := bne_iff_ne.mpr c4
 replace H := Ic H; rcases H with ⟨c7, H⟩ | ⟨c7, H⟩
 · have c7b0 : (a0 == 1) = true := beq_iff_eq.mpr c7
   have c7b1 := bne_eq_false_iff_eq.mpr c7
   clear c7
   replace H := jD H
   obtain ⟨t242, A80, H⟩ := H
   have A8 := jA A80
   clear A80
   simp only [Option.some.injEq, Prod.mk.injEq] at H
   obtain ⟨rfl, rfl, rfl⟩ := H
   go_enter Try.func216, Try.ntmps216
   go_wp2_with (first | ((with_reducible refine gate_dst (N := 6) rfl ?_); refine box_event ?hg (N := 6) ?hd (cs := #[.int .i64 0, .int .i64 0, .int .i64 0]) (t := 58) ?hr ?_; (case hd => rfl); (case hg => rfl); (case hr => first | (go_simp; done) | (go_simp; rfl)); intro gb241 hg w9 hbox hb; have BK241 := jA (hbox); have GW241 := jA ((by rw [hg]; exact (jL Ub) : w.heap.size ≤ gb241)); have GE241 := jA ((by rw [hg]; exact (jL Ub) : w.heap.size ≤ gb241)); replace HB := jA (jB Ub hb); clear hb hbox hg) | (refine Gl 19 #[.slice A2 l2.length c2] Try.func185 ?_; (with_reducible refine (impl_total.calls k _ _ l2 t242 _ (Cm (jY HR2.out HB.out)) HC2.out A8.out).mono ?_); rintro e w' ⟨rfl, ⟨nd, rfl⟩⟩; refine ⟨_, rfl, ?_⟩; (try (rw [drewN_self w9]; generalize hq_ : World.drewN w9 _ = w9; have n0_ : Aside0 (w9.heap[gb241]? = some (.cells #[.int .i64 0, .int .i64 0, .int .i64 0] 58 (0, 0))) := ⟨by rw [← hq_]; exact (Bm BK241.out)⟩; have n1_ : Aside0 (Below w.heap.size w w9) := ⟨by rw [← hq_]; exact Ub⟩; clear BK241 HB hq_; have BK241 := n0_; have HB := n1_; clear n0_ n1_; (try have hcyBK241_0 : w9.cell? ⟨gb241, 0, none⟩ = some (.int .i64 0) := (jE BK241.out 0).trans rfl); (try have hcyBK241_1 : w9.cell? ⟨gb241, 1, none⟩ = some (.int .i64 0) := (jE BK241.out 1).trans rfl); (try have hcyBK241_2 : w9.cell? ⟨gb241, 2, none⟩ = some (.int .i64 0) := (jE BK241.out 2).trans rfl))); have hcz10_0 : w9.cell? ⟨gb241, 0, none⟩ = some (.int .i64 0) := (jE BK241.out 0).trans rfl; have hcz10_1 : w9.cell? ⟨gb241, 1, none⟩ = some (.int .i64 0) := (jE BK241.out 1).trans rfl; have hcz10_2 : w9.cell? ⟨gb241, 2, none⟩ = some (.int .i64 0) := (jE BK241.out 2).trans rfl; have hfz10_0 := jF BK241.out 0; have hfz10_1 := jF BK241.out 1; have hfz10_2 := jF BK241.out 2))
   refine bodyPost_ret (results_cell_row rfl _ _ gb241 58 #[.int .i64 1, .int .i64 t242, .int .i64 0] (0, 0) _ rfl (by (with_reducible repeat refine Xg ?_); refine jp (cs := #[.int .i64 1, .int .i64 t242, .int .i64 0]) ?_ 2 _ rfl; (with_reducible repeat refine Xg ?_); refine jp (cs := #[.int .i64 1, .int .i64 0, .int .i64 0]) ?_ 1 _ rfl; (with_reducible repeat refine Xg ?_); refine jp (cs := #[.int .i64 0, .int .i64 0, .int .i64 0]) ?_ 0 _ rfl; (with_reducible repeat refine Xg ?_); exact BK241.out) Try.underlying58 rfl (by kernel_rfl)) rfl ?_
   exact ⟨Re, Ub⟩
 have c7b0 : (a0 == 1) = false := beq_eq_false_iff_ne.mpr c7
 have c7b1 := bne_iff_ne.mpr c7
 replace H := Ic H; rcases H with ⟨c11, H⟩ | ⟨c11, H⟩
 · have c11b0 : (a0 == 2) = true := beq_iff_eq.mpr c11
   have c11b1 := bne_eq_false_iff_eq.mpr c11
   clear c11
   replace H := jD H
   obtain ⟨t243, A120, H⟩ := H
   have A12 := jA A120
   clear A120
   obtain ⟨ji13, hji13⟩ : ∃ j_ : Int, (mn 1 t243) = j_ := ⟨_, rfl⟩
   replace H : (some (2, a1, ji13)) = some (r1, r2, r3) := by first | (rw [hji13] at H; exact H) | (simp only [hji13] at H ⊢; exact H)
   (try rw [hji13] at A12)
   (try (have hji13h : ji13 ≤ 1 := by (rw [← hji13]; unfold mn; (repeat' split) <;> omega)))
   (try (have hji13g : ji13 ≤ 64 := by omega))
   have hji13_ : (if t243 < 1 then t243 else 1) = ji13 := hji13
   simp only [Option.some.injEq, Prod.mk.injEq] at H
   obtain ⟨rfl, rfl, rfl⟩ := H
   go_enter Try.func216, Try.ntmps216
   go_wp2_with (first | ((with_reducible refine gate_dst (N := 6) rfl ?_); refine box_event ?hg (N := 6) ?hd (cs := #[.int .i64 0, .int .i64 0, .int .i64 0]) (t := 58) ?hr ?_; (case hd => rfl); (case hg => rfl); (case hr => first | (go_simp; done) | (go_simp; rfl)); intro gb241 hg w14 hbox hb; have BK241 := jA (hbox); have GW241 := jA ((by rw [hg]; exact (jL Ub) : w.heap.size ≤ gb241)); have GE241 := jA ((by rw [hg]; exact (jL Ub) : w.heap.size ≤ gb241)); replace HB := jA (jB Ub hb); clear hb hbox hg) | (refine Gl 26 #[.slice A2 l2.length c2, .int .i64 a1] Try.func210 ?_; (with_reducible refine (impl_waysOf.calls k _ _ l2 a1 t243 _ (Cm (jY HR2.out HB.out)) HC2.out A12.out).mono ?_); rintro e w15 ⟨rfl, hb⟩; refine ⟨_, rfl, ?_⟩; replace BK241 := jA (jN (g := gb241) (o := .cells #[.int .i64 0, .int .i64 0, .int .i64 0] 58 (0, 0)) (Bm BK241.out) hb); replace HB := jA (jB Ub hb); clear hb; have hcz16_0 : w15.cell? ⟨gb241, 0, none⟩ = some (.int .i64 0) := (jE BK241.out 0).trans rfl; have hcz16_1 : w15.cell? ⟨gb241, 1, none⟩ = some (.int .i64 0) := (jE BK241.out 1).trans rfl; have hcz16_2 : w15.cell? ⟨gb241, 2, none⟩ = some (.int .i64 0) := (jE BK241.out 2).trans rfl; have hfz16_0 := jF BK241.out 0; have hfz16_1 := jF BK241.out 1; have hfz16_2 := jF BK241.out 2))
   refine bodyPost_ret (results_cell_row rfl _ _ gb241 58 #[.int .i64 2, .int .i64 a1, .int .i64 ji13] (0, 0) _ rfl (by (with_reducible repeat refine Xg ?_); refine jp (cs := #[.int .i64 2, .int .i64 a1, .int .i64 0]) ?_ 2 _ rfl; (with_reducible repeat refine Xg ?_); refine jp (cs := #[.int .i64 2, .int .i64 0, .int .i64 0]) ?_ 1 _ rfl; (with_reducible repeat refine Xg ?_); refine jp (cs := #[.int .i64 0, .int .i64 0, .int .i64 0]) ?_ 0 _ rfl; (with_reducible repeat refine Xg ?_); exact BK241.out) Try.underlying58 rfl (by kernel_rfl)) rfl ?_
   exact ⟨by first | rfl | (simp [errW_none, errW_some] <;> rfl) | (simp only [← hji13]; first | rfl | (simp [errW_none, errW_some] <;> rfl)) | (simp [*, errW_none, errW_some] <;> rfl), Ub⟩
 have c11b0 : (a0 == 2) = false := beq_eq_false_iff_ne.mpr c11
 have c11b1 := bne_iff_ne.mpr c11
 replace H := Ic H; rcases H with ⟨c17, H⟩ | ⟨c17, H⟩
 · have c17b0 : (a0 == 3) = true := beq_iff_eq.mpr c17
   have c17b1 := bne_eq_false_iff_eq.mpr c17
   clear c17
   replace H := jD H
   obtain ⟨t244, A180, H⟩ := H
   have A18 := jA A180
   clear A180
   simp only [Option.some.injEq, Prod.mk.injEq] at H
   obtain ⟨rfl, rfl, rfl⟩ := H
   go_enter Try.func216, Try.ntmps216
   go_wp2_with (first | ((with_reducible refine gate_dst (N := 6) rfl ?_); refine box_event ?hg (N := 6) ?hd (cs := #[.int .i64 0, .int .i64 0, .int .i64 0]) (t := 58) ?hr ?_; (case hd => rfl); (case hg => rfl); (case hr => first | (go_simp; done) | (go_simp; rfl)); intro gb241 hg w19 hbox hb; have BK241 := jA (hbox); have GW241 := jA ((by rw [hg]; exact (jL Ub) : w.heap.size ≤ gb241)); have GE241 := jA ((by rw [hg]; exact (jL Ub) : w.heap.size ≤ gb241)); replace HB := jA (jB Ub hb); clear hb hbox hg) | (refine Gl 32 #[.slice A2 l2.length c2] Try.func199 ?_; (with_reducible refine (impl_run.calls k _ _ l2 t244 _ (Cm (jY HR2.out HB.out)) HC2.out A18.out).mono ?_); rintro e w' ⟨rfl, ⟨nd, rfl⟩⟩; refine ⟨_, rfl, ?_⟩; (try (rw [drewN_self w19]; generalize hq_ : World.drewN w19 _ = w19; have n0_ : Aside0 (w19.heap[gb241]? = some (.cells #[.int .i64 0, .int .i64 0, .int .i64 0] 58 (0, 0))) := ⟨by rw [← hq_]; exact (Bm BK241.out)⟩; have n1_ : Aside0 (Below w.heap.size w w19) := ⟨by rw [← hq_]; exact Ub⟩; clear BK241 HB hq_; have BK241 := n0_; have HB := n1_; clear n0_ n1_; (try have hcyBK241_0 : w19.cell? ⟨gb241, 0, none⟩ = some (.int .i64 0) := (jE BK241.out 0).trans rfl); (try have hcyBK241_1 : w19.cell? ⟨gb241, 1, none⟩ = some (.int .i64 0) := (jE BK241.out 1).trans rfl); (try have hcyBK241_2 : w19.cell? ⟨gb241, 2, none⟩ = some (.int .i64 0) := (jE BK241.out 2).trans rfl))); have hcz20_0 : w19.cell? ⟨gb241, 0, none⟩ = some (.int .i64 0) := (jE BK241.out 0).trans rfl; have hcz20_1 : w19.cell? ⟨gb241, 1, none⟩ = some (.int .i64 0) := (jE BK241.out 1).trans rfl; have hcz20_2 : w19.cell? ⟨gb241, 2, none⟩ = some (.int .i64 0) := (jE BK241.out 2).trans rfl; have hfz20_0 := jF BK241.out 0; have hfz20_1 := jF BK241.out 1; have hfz20_2 := jF BK241.out 2))
   refine bodyPost_ret (results_cell_row rfl _ _ gb241 58 #[.int .i64 3, .int .i64 t244, .int .i64 0] (0, 0) _ rfl (by (with_reducible repeat refine Xg ?_); refine jp (cs := #[.int .i64 3, .int .i64 t244, .int .i64 0]) ?_ 2 _ rfl; (with_reducible repeat refine Xg ?_); refine jp (cs := #[.int .i64 3, .int .i64 0, .int .i64 0]) ?_ 1 _ rfl; (with_reducible repeat refine Xg ?_); refine jp (cs := #[.int .i64 0, .int .i64 0, .int .i64 0]) ?_ 0 _ rfl; (with_reducible repeat refine Xg ?_); exact BK241.out) Try.underlying58 rfl (by kernel_rfl)) rfl ?_
   exact ⟨Re, Ub⟩
 have c17b0 : (a0 == 3) = false := beq_eq_false_iff_ne.mpr c17
 have c17b1 := bne_iff_ne.mpr c17
 replace H := Ic H; rcases H with ⟨c21, H⟩ | ⟨c21, H⟩
 · have c21b0 : (a0 == 4) = true := beq_iff_eq.mpr c21
   have c21b1 := bne_eq_false_iff_eq.mpr c21
   clear c21
   replace H := jD H
   obtain ⟨t245, A220, H⟩ := H
   have A22 := jA A220
   clear A220
   simp only [Option.some.injEq, Prod.mk.injEq] at H
   obtain ⟨rfl, rfl, rfl⟩ := H
   go_enter Try.func216, Try.ntmps216
   go_wp2_with (first | ((with_reducible refine gate_dst (N := 6) rfl ?_); refine box_event ?hg (N := 6) ?hd (cs := #[.int .i64 0, .int .i64 0, .int .i64 0]) (t := 58) ?hr ?_; (case hd => rfl); (case hg => rfl); (case hr => first | (go_simp; done) | (go_simp; rfl)); intro gb241 hg w23 hbox hb; have BK241 := jA (hbox); have GW241 := jA ((by rw [hg]; exact (jL Ub) : w.heap.size ≤ gb241)); have GE241 := jA ((by rw [hg]; exact (jL Ub) : w.heap.size ≤ gb241)); replace HB := jA (jB Ub hb); clear hb hbox hg) | (refine Gl 39 #[.slice A2 l2.length c2, .int .i64 a1] Try.func210 ?_; (with_reducible refine (impl_waysOf.calls k _ _ l2 a1 t245 _ (Cm (jY HR2.out HB.out)) HC2.out A22.out).mono ?_); rintro e w24 ⟨rfl, hb⟩; refine ⟨_, rfl, ?_⟩; replace BK241 := jA (jN (g := gb241) (o := .cells #[.int .i64 0, .int .i64 0, .int .i64 0] 58 (0, 0)) (Bm BK241.out) hb); replace HB := jA (jB Ub hb); clear hb; have hcz25_0 : w24.cell? ⟨gb241, 0, none⟩ = some (.int .i64 0) := (jE BK241.out 0).trans rfl; have hcz25_1 : w24.cell? ⟨gb241, 1, none⟩ = some (.int .i64 0) := (jE BK241.out 1).trans rfl; have hcz25_2 : w24.cell? ⟨gb241, 2, none⟩ = some (.int .i64 0) := (jE BK241.out 2).trans rfl; have hfz25_0 := jF BK241.out 0; have hfz25_1 := jF BK241.out 1; have hfz25_2 := jF BK241.out 2))
   refine bodyPost_ret (results_cell_row rfl _ _ gb241 58 #[.int .i64 4, .int .i64 a1, .int .i64 t245] (0, 0) _ rfl (by (with_reducible repeat refine Xg ?_); refine jp (cs := #[.int .i64 4, .int .i64 a1, .int .i64 0]) ?_ 2 _ rfl; (with_reducible repeat refine Xg ?_); refine jp (cs := #[.int .i64 4, .int .i64 0, .int .i64 0]) ?_ 1 _ rfl; (with_reducible repeat refine Xg ?_); refine jp (cs := #[.int .i64 0, .int .i64 0, .int .i64 0]) ?_ 0 _ rfl; (with_reducible repeat refine Xg ?_); exact BK241.out) Try.underlying58 rfl (by kernel_rfl)) rfl ?_
   exact ⟨Re, Ub⟩
 have c21b0 : (a0 == 4) = false := beq_eq_false_iff_ne.mpr c21
 have c21b1 := bne_iff_ne.mpr c21
 have H' := jA H
 clear H
 go_enter Try.func216, Try.ntmps216
 go_wp2_with (first | ((with_reducible refine gate_dst (N := 6) rfl ?_); refine box_event ?hg (N := 6) ?hd (cs := #[.int .i64 0, .int .i64 0, .int .i64 0]) (t := 58) ?hr ?_; (case hd => rfl); (case hg => rfl); (case hr => first | (go_simp; done) | (go_simp; rfl)); intro gb241 hg w26 hbox hb; have BK241 := jA (hbox); have GW241 := jA ((by rw [hg]; exact (jL Ub) : w.heap.size ≤ gb241)); have GE241 := jA ((by rw [hg]; exact (jL Ub) : w.heap.size ≤ gb241)); replace HB := jA (jB Ub hb); clear hb hbox hg))
 go_loopg [7, 43] k (fun kq v7 v43 w' => ∃ (x7_1 : Int) (x43_1 : Int), v7 = .int .i64 x7_1 ∧ v43 = .int .i64 x43_1 ∧ Aside0 (impl_clueOf.l0 kq a1 x7_1 l2 (l2.length : Int) x43_1 = some (r1, r2, r3)) ∧ Aside0 (kq ≤ k) ∧ Aside0 (w'.heap[gb241]? = some (.cells #[.int .i64 0, .int .i64 0, .int .i64 0] 58 (0, 0))) ∧ Aside0 (Below w.heap.size w w'))
 case atStart => exact ⟨(0), (0), Rs, Rs, H', ⟨jX _⟩, ⟨Bm BK241.out⟩, ⟨Ub⟩⟩
 case round =>
  clear H'
  try clear c2
  try clear c4
  try clear c4b0
  try clear c4b1
  try clear c7
  try clear c7b0
  try clear c7b1
  try clear c11
  try clear c11b0
  try clear c11b1
  try clear c17
  try clear c17b0
  try clear c17b1
  try clear c21
  try clear c21b0
  try clear c21b1
  try clear hcz10_0
  try clear hcz10_1
  try clear hcz10_2
  try clear hcz16_0
  try clear hcz16_1
  try clear hcz16_2
  try clear hcz20_0
  try clear hcz20_1
  try clear hcz20_2
  try clear hcz25_0
  try clear hcz25_1
  try clear hcz25_2
  try clear hcz6_0
  try clear hcz6_1
  try clear hcz6_2
  try clear hfz10_0
  try clear hfz10_1
  try clear hfz10_2
  try clear hfz16_0
  try clear hfz16_1
  try clear hfz16_2
  try clear hfz20_0
  try clear hfz20_1
  try clear hfz20_2
  try clear hfz25_0
  try clear hfz25_1
  try clear hfz25_2
  try clear hfz6_0
  try clear hfz6_1
  try clear hfz6_2
  obtain ⟨x7_1, x43_1, rfl, rfl, HA, HK1, BK241, HB⟩ := hrel
  cases gk with
  | zero => exact absurd HA.out (by simp [impl_clueOf.l0])
  | succ k1 =>
   have H := HA.out
   clear HA
   simp only [impl_clueOf.l0] at H
   replace H := Ic H; rcases H with ⟨c27, H⟩ | ⟨c27, H⟩
   · have c27b0 := jK c27
     clear c27
     replace H := Ip H; obtain ⟨c28, H⟩ := H
     have c28b0 := jK c28
     clear c28
     replace H := Ip H; obtain ⟨c29, H⟩ := H
     have c29b0 := jK c29
     clear c29
     replace H := Ic H; rcases H with ⟨c30, H⟩ | ⟨c30, H⟩
     · have c30b0 : ((rd l2 x43_1) == a1) = true := beq_iff_eq.mpr c30
       have c30b1 := bne_eq_false_iff_eq.mpr c30
       clear c30
       have H' := jA H
       clear H
       obtain ⟨p246, q246, ad246, e246, hx246_0⟩ := Ai HR2.out x43_1
       cases e246
       replace hx246_0 := (HB.out.cell (World.block_lt_of_cell? w _ hx246_0)).trans hx246_0
       go_wp2
       go_roundg k1
       case measure => have := HK1.out; omega
       case rel => exact ⟨(wrap64 (x7_1 + 1)), (wrap64 (x43_1 + 1)), Rs, Rs, H', ⟨by have := HK1.out; omega⟩, ⟨Bm BK241.out⟩, ⟨Ub⟩⟩
     have c30b0 : ((rd l2 x43_1) == a1) = false := beq_eq_false_iff_ne.mpr c30
     have c30b1 := bne_iff_ne.mpr c30
     have H' := jA H
     clear H
     obtain ⟨p246, q246, ad246, e246, hx246_0⟩ := Ai HR2.out x43_1
     cases e246
     replace hx246_0 := (HB.out.cell (World.block_lt_of_cell? w _ hx246_0)).trans hx246_0
     go_wp2
     go_roundg k1
     case measure => have := HK1.out; omega
     case rel => exact ⟨(x7_1), (wrap64 (x43_1 + 1)), Rs, Rs, H', ⟨by have := HK1.out; omega⟩, ⟨Bm BK241.out⟩, ⟨Ub⟩⟩
   have c27b0 := jV c27
   clear c27
   simp only [Option.some.injEq, Prod.mk.injEq] at H
   obtain ⟨rfl, rfl, rfl⟩ := H
   have hcz31_0 : wr.cell? ⟨gb241, 0, none⟩ = some (.int .i64 0) := (jE BK241.out 0).trans rfl
   have hcz31_1 : wr.cell? ⟨gb241, 1, none⟩ = some (.int .i64 0) := (jE BK241.out 1).trans rfl
   have hcz31_2 : wr.cell? ⟨gb241, 2, none⟩ = some (.int .i64 0) := (jE BK241.out 2).trans rfl
   have hfz31_0 := jF BK241.out 0
   have hfz31_1 := jF BK241.out 1
   have hfz31_2 := jF BK241.out 2
   go_wp2
   refine bodyPost_ret (results_cell_row rfl _ _ gb241 58 #[.int .i64 5, .int .i64 a1, .int .i64 x7_1] (0, 0) _ rfl (by (with_reducible repeat refine Xg ?_); refine jp (cs := #[.int .i64 5, .int .i64 a1, .int .i64 0]) ?_ 2 _ rfl; (with_reducible repeat refine Xg ?_); refine jp (cs := #[.int .i64 5, .int .i64 0, .int .i64 0]) ?_ 1 _ rfl; (with_reducible repeat refine Xg ?_); refine jp (cs := #[.int .i64 0, .int .i64 0, .int .i64 0]) ?_ 0 _ rfl; (with_reducible repeat refine Xg ?_); exact BK241.out) Try.underlying58 rfl (by kernel_rfl)) rfl ?_
   exact ⟨Re, Ub⟩

/-! ### impl_MakePuzzle: function 78 -/
-- GIVEN loop.example/g01305/impl.MakePuzzle rounds=1 only=1
-- NEEDS loop.example/g01305/impl.IsHidden ; loop.example/g01305/impl.within ; loop.example/g01305/impl.clueOf ; loop.example/g01305/impl.MakePuzzle$1
def mkArg (z : Int) : Int := if Int.tmod (nxtZ z) 6 = 5 then wrap64 (Int.tmod (nxtZ (nxtZ z)) 6 + 1) else Int.tmod (nxtZ (nxtZ z)) 25
def mkL (k : Nat) (l : List Int) : Nat → Int → List S58 → Option (List S58)
  | 0, _, acc => some acc
  | d + 1, z, acc => (impl_clueOf.f k (Int.tmod (nxtZ z) 6) (mkArg z) l).bind fun r => mkL k l d (nxtZ (nxtZ z)) (acc ++ [⟨r.1, r.2.1, r.2.2⟩])
def impl_MakePuzzle.f (k : Nat) (l0 : List Int) (a1 a2 : Int) : Option (List S58 × Bool) := (impl_IsHidden.f k l0).bind fun b => if b = true ∧ 0 ≤ a1 ∧ a1 ≤ 6 ∧ 0 ≤ a2 ∧ a2 ≤ 9999 then (mkL k l0 a1.toNat a2 []).bind fun r => some (r, true) else some ([], false)
theorem within_val (a b c : Int) : impl_within.f a b c = some (decide (b ≤ a ∧ a ≤ c)) := by
  unfold impl_within.f
  by_cases h : b ≤ a
  · rw [if_pos h]; simp [h]
  · rw [if_neg h]; simp [h]
theorem mp_step {gS gR gP base : Nat} {w0 W w6 : World} {z z1 : Int} {v : Value} {acc : List S58} (e : w6 = W.setCell ⟨gS, 0, none⟩ (.int .i64 z1)) (h1 : W.heap[gS]? = some (.cells #[.int .i64 z] 3 (0, 0))) (h2 : W.heap[gR]? = some (.cells #[.slice none 0 0] 52 (0, 0))) (h3 : W.heap[gP]? = some (.cells #[v] 52 (0, 0))) (h4 : Kd.R k58 58 W base (fun _ => True) v acc) (h5 : Below base w0 W) (hb : base ≤ gS) : w6.heap[gS]? = some (.cells #[.int .i64 z1] 3 (0, 0)) ∧ w6.heap[gR]? = some (.cells #[.slice none 0 0] 52 (0, 0)) ∧ w6.heap[gP]? = some (.cells #[v] 52 (0, 0)) ∧ Kd.R k58 58 w6 base (fun _ => True) v acc ∧ Below base w0 w6 := by
  subst e
  exact ⟨jp h1 0 _ rfl, jk h2 (p := ⟨gS, 0, none⟩) (blk_ne h2 h1 (by decide)) _, jk h3 (p := ⟨gS, 0, none⟩) (blk_ne h3 h1 (by decide)) _, Kd.R_set h4 h1 (by decide) 0 _, Below.setCell h5 (p := ⟨gS, 0, none⟩) hb _⟩
set_option maxHeartbeats 8000000 in
set_option maxRecDepth 100000 in
theorem impl_MakePuzzle.calls (k : Nat) (A0 : Option Addr) (c0 : Nat) (l0 : List Int) (a1 a2 : Int) (r1 : List S58) (r2 : Bool) (w : World) (hr0 : Kd.C (Kd.int .i64) w A0 l0.length l0) (hc0 : l0.length ≤ c0) (h : impl_MakePuzzle.f k l0 a1 a2 = some (r1, r2)) :
    Calls Try.prog 78 #[.slice A0 l0.length c0, .int .i64 a1, .int .i64 a2] w fun e w' => ∃ v0_ : Value, e = .returned (.tuple #[.agg #[v0_], .bool r2]) ∧ Kd.R k58 58 w' w.heap.size (fun _ => True) v0_ r1 ∧ Below w.heap.size w w' := by
  have hmf : ∀ (fn : Fn) (first cap : Array Value) (w : World), (Instr.makeFunc fn first cap).run Try.prog w = .ok (.func fn first cap) w := fun _ _ _ _ => rfl
  unfold impl_MakePuzzle.f at h
  obtain ⟨b, hb, h⟩ := Option.bind_eq_some_iff.1 h
  have HB0 := jA (jP (jP (jU w.heap.size w) (.cells #[.int .i64 a2] 3)) (.cells #[.slice none 0 0] 52))
  have HXS0 := jA (blk_alloc (blk_new w (.cells #[.int .i64 a2] 3)) (.cells #[.slice none 0 0] 52))
  have HXR0 : Aside0 (((w.alloc (.cells #[.int .i64 a2] 3)).alloc (.cells #[.slice none 0 0] 52)).heap[w.heap.size + 1]? = some (.cells #[.slice none 0 0] 52 (0, 0))) := ⟨by have := blk_new (w.alloc (.cells #[.int .i64 a2] 3)) (.cells #[.slice none 0 0] 52); simpa using this⟩
  have HR := jA hr0
  have HNB := jA hb
  have HWA := jA (within_val a1 0 6)
  have HWS := jA (within_val a2 0 9999)
  clear hr0 hb
  by_cases c : b = true ∧ 0 ≤ a1 ∧ a1 ≤ 6 ∧ 0 ≤ a2 ∧ a2 ≤ 9999
  case neg =>
    rw [if_neg c] at h
    simp only [Option.some.injEq, Prod.mk.injEq] at h
    obtain ⟨rfl, rfl⟩ := h
    have HCC : Aside0 (¬ (b = true ∧ (decide (0 ≤ a1 ∧ a1 ≤ 6)) = true ∧ (decide (0 ≤ a2 ∧ a2 ≤ 9999)) = true)) := ⟨fun q => c ⟨q.1, (of_decide_eq_true q.2.1).1, (of_decide_eq_true q.2.1).2, (of_decide_eq_true q.2.2).1, (of_decide_eq_true q.2.2).2⟩⟩
    clear c
    generalize (decide (0 ≤ a1 ∧ a1 ≤ 6)) = ba at *
    generalize (decide (0 ≤ a2 ∧ a2 ≤ 9999)) = bs at *
    cases b with
    | false =>
      go_enter Try.func78, Try.ntmps78
      go_wp2_with (go_at_call 81; refine (impl_IsHidden.calls k A0 c0 l0 false _ (jY HR.out HB0.out) hc0 HNB.out).mono ?_; rintro e w1 ⟨rfl, hb1⟩; have HB1 := jA (jB HB0.out hb1); have HXR1 := jA (jN HXR0.out hb1); have hr0 : w1.cell? ⟨w.heap.size + 1, 0, none⟩ = some (.slice none 0 0) := (jE HXR1.out 0).trans rfl; have hr2 := jF HXR1.out 0; clear hb1)
      refine bodyPost_ret (results_ct rfl _ _ (w.heap.size + 1) 52 #[.slice none 0 0] (0, 0) _ rfl (by repeat (first | exact HXR1.out | refine jp (cs := #[.slice none 0 0]) ?_ 0 _ rfl)) Try.underlying52 rfl (by kernel_rfl)) rfl ?_
      exact ⟨_, rfl, Kd.R_nil _ _ _ _ _, by repeat (first | exact HB1.out | refine Below.setCell ?_ (by simp) _)⟩
    | true =>
      cases ba with
      | false =>
        go_enter Try.func78, Try.ntmps78
        go_wp2_with (first
          | (go_at_call 81; refine (impl_IsHidden.calls k A0 c0 l0 true _ (jY HR.out HB0.out) hc0 HNB.out).mono ?_; rintro e w1 ⟨rfl, hb1⟩; have HB1 := jA (jB HB0.out hb1); have HXR1 := jA (jN HXR0.out hb1); clear hb1)
          | ((try (refine gate_guard (by rfl) ?_; dsimp only)); go_at_call 177; refine (impl_within.calls a1 0 6 false _ HWA.out).mono ?_; rintro e w2 ⟨rfl, hd2⟩; have HB2 := jA (jB HB1.out hd2.below); have HXR2 := jA (jN HXR1.out hd2.below); have hr0 : w2.cell? ⟨w.heap.size + 1, 0, none⟩ = some (.slice none 0 0) := (jE HXR2.out 0).trans rfl; have hr2 := jF HXR2.out 0; clear hd2))
        refine bodyPost_ret (results_ct rfl _ _ (w.heap.size + 1) 52 #[.slice none 0 0] (0, 0) _ rfl (by repeat (first | exact HXR2.out | refine jp (cs := #[.slice none 0 0]) ?_ 0 _ rfl)) Try.underlying52 rfl (by kernel_rfl)) rfl ?_
        exact ⟨_, rfl, Kd.R_nil _ _ _ _ _, by repeat (first | exact HB2.out | refine Below.setCell ?_ (by simp) _)⟩
      | true =>
        have e : bs = false := by cases bs with | false => rfl | true => exact absurd ⟨rfl, rfl, rfl⟩ HCC.out
        subst e
        go_enter Try.func78, Try.ntmps78
        go_wp2_with ((try (refine gate_guard (by rfl) ?_; dsimp only)); first
          | (go_at_call 81; refine (impl_IsHidden.calls k A0 c0 l0 true _ (jY HR.out HB0.out) hc0 HNB.out).mono ?_; rintro e w1 ⟨rfl, hb1⟩; have HB1 := jA (jB HB0.out hb1); have HXR1 := jA (jN HXR0.out hb1); have HXS1 := jA (jN HXS0.out hb1); clear hb1; refine Aside0.out ?_))
        refine jA ?_
        go_wp2_with ((try (refine gate_guard (by rfl) ?_; dsimp only)); go_at_call 177; refine (impl_within.calls a1 0 6 true _ HWA.out).mono ?_; rintro e w2 ⟨rfl, hd2⟩; have HB2 := jA (jB HB1.out hd2.below); have HXR2 := jA (jN HXR1.out hd2.below); have HXS2 := jA (jN HXS1.out hd2.below); have hs0 : w2.cell? ⟨w.heap.size, 0, none⟩ = some (.int .i64 a2) := (jE HXS2.out 0).trans rfl; clear hd2; refine Aside0.out ?_)
        refine jA ?_
        go_wp2_with ((try (refine gate_guard (by rfl) ?_; dsimp only)); go_at_call 177; refine (impl_within.calls a2 0 9999 false _ HWS.out).mono ?_; rintro e w3 ⟨rfl, hd3⟩; have HB3 := jA (jB HB2.out hd3.below); have HXR3 := jA (jN HXR2.out hd3.below); have hr0 : w3.cell? ⟨w.heap.size + 1, 0, none⟩ = some (.slice none 0 0) := (jE HXR3.out 0).trans rfl; have hr2 := jF HXR3.out 0; clear hd3 hs0)
        refine bodyPost_ret (results_ct rfl _ _ (w.heap.size + 1) 52 #[.slice none 0 0] (0, 0) _ rfl (by repeat (first | exact HXR3.out | refine jp (cs := #[.slice none 0 0]) ?_ 0 _ rfl)) Try.underlying52 rfl (by kernel_rfl)) rfl ?_
        exact ⟨_, rfl, Kd.R_nil _ _ _ _ _, by repeat (first | exact HB3.out | refine Below.setCell ?_ (by simp) _)⟩
  case pos =>
    rw [if_pos c] at h
    obtain ⟨res, hmk, h⟩ := Option.bind_eq_some_iff.1 h
    simp only [Option.some.injEq, Prod.mk.injEq] at h
    obtain ⟨rfl, rfl⟩ := h
    obtain ⟨rfl, ca⟩ := c
    rw [jK ⟨ca.1, ca.2.1⟩] at HWA
    rw [jK ⟨ca.2.2.1, ca.2.2.2⟩] at HWS
    obtain ⟨m, rfl⟩ := Int.eq_ofNat_of_zero_le ca.1
    rw [Int.toNat_natCast] at hmk
    have HCA := jA ca
    have HMK := jA hmk
    clear hmk ca
    go_enter Try.func78, Try.ntmps78
    go_wp2_with (go_at_call 81; refine (impl_IsHidden.calls k A0 c0 l0 true _ (jY HR.out HB0.out) hc0 HNB.out).mono ?_; rintro e w1 ⟨rfl, hb1⟩; have HB1 := jA (jB HB0.out hb1); have HXR1 := jA (jN HXR0.out hb1); have HXS1 := jA (jN HXS0.out hb1); clear hb1; refine Aside0.out ?_)
    refine jA ?_
    go_wp2_with ((try (refine gate_guard (by rfl) ?_; dsimp only)); go_at_call 177; refine (impl_within.calls m 0 6 true _ HWA.out).mono ?_; rintro e w2 ⟨rfl, hd2⟩; have HB2 := jA (jB HB1.out hd2.below); have HXR2 := jA (jN HXR1.out hd2.below); have HXS2 := jA (jN HXS1.out hd2.below); have hs0 : w2.cell? ⟨w.heap.size, 0, none⟩ = some (.int .i64 a2) := (jE HXS2.out 0).trans rfl; clear hd2; refine Aside0.out ?_)
    refine jA ?_
    go_wp2_with (first
      | ((try (refine gate_guard (by rfl) ?_; dsimp only)); go_at_call 177; refine (impl_within.calls a2 0 9999 true _ HWS.out).mono ?_; rintro e w3 ⟨rfl, hd3⟩; have HB3 := jA (jB HB2.out hd3.below); have HXR3 := jA (jN HXR2.out hd3.below); have HXS3 := jA (jN HXS2.out hd3.below); clear hd3 hs0)
      | ((with_reducible refine gate_dst (N := 28) rfl ?_); refine Kd.R_lit k58 (w0 := w) w.heap.size 58 ?hg (N := 28) ?hd (xs := []) (inner := []) (ok := fun _ => True) (okp := fun _ => True) ?hr ?hp (fun _ hk => hk) trivial HB3.out HB3.out.size (by simp) ?_; (case hd => rfl); (case hg => rfl); (case hr => first | (go_simp; done) | (go_simp; rfl)); (case hp => exact (Reps.none _ _)); intro v4 w4 ho4 hb4 hg4 hnew4; obtain ⟨A4, c4, rfl⟩ := jq ho4; have HO4 := jA ho4; have HB4 := jA hb4; have HXR4 := jA (js HXR3.out hg4 (by simp)); have HXS4 := jA (js HXS3.out hg4 (by simp)); clear ho4 hb4 hg4 hnew4))
    have HB5 := jA (jP HB4.out (.cells #[.slice A4 0 c4] 52))
    have HXS5 := jA (blk_alloc HXS4.out (.cells #[.slice A4 0 c4] 52))
    have HXR5 := jA (blk_alloc HXR4.out (.cells #[.slice A4 0 c4] 52))
    have HXP5 := jA (blk_new w4 (.cells #[.slice A4 0 c4] 52))
    have HO5 := jA (Kd.R_alloc HO4.out (.cells #[.slice A4 0 c4] 52))
    obtain ⟨gP, egP⟩ : ∃ g, g = w4.heap.size := ⟨_, rfl⟩
    have HGP : Aside0 (w.heap.size ≤ gP ∧ gP ≠ w.heap.size ∧ gP ≠ w.heap.size + 1) := ⟨by
      have h1 := blk_lt HXR4.out
      subst egP
      exact ⟨by omega, by omega, by omega⟩⟩
    rw [← egP] at HXP5 ⊢
    generalize (w4.alloc (.cells #[.slice A4 0 c4] 52)) = w5 at *
    clear HO4 HB4 HXS4 HXR4 egP HXS0 HXR0 HXS1 HXR1 HXS2 HXR2 HXS3 HXR3 HB0 HB1 HB2 HB3
    go_loopg [31] m (fun gg v31 wr => ∃ (i : Nat) (z : Int) (acc : List S58) (A : Option Addr) (c : Nat), v31 = .int .i64 i ∧ Aside0 (i ≤ m ∧ m - i ≤ gg ∧ 0 ≤ z ∧ z ≤ 10006 ∧ acc.length = i ∧ mkL k l0 (m - i) z acc = some res) ∧ Aside0 (wr.heap[w.heap.size]? = some (.cells #[.int .i64 z] 3 (0, 0))) ∧ Aside0 (wr.heap[w.heap.size + 1]? = some (.cells #[.slice none 0 0] 52 (0, 0))) ∧ Aside0 (wr.heap[gP]? = some (.cells #[.slice A acc.length c] 52 (0, 0))) ∧ Aside0 (Kd.R k58 58 wr w.heap.size (fun _ => True) (.slice A acc.length c) acc) ∧ Aside0 (Below w.heap.size w wr))
    case atStart => exact ⟨0, a2, [], A4, c4, rfl, ⟨by omega, by omega, HCA.out.2.2.1, by have := HCA.out.2.2.2; omega, rfl, HMK.out⟩, HXS5, HXR5, HXP5, HO5, HB5⟩
    case round =>
      obtain ⟨i, z, acc, A, c, rfl, HQ, HXS, HXR, HXP, HO, HB⟩ := hrel
      by_cases hlt : (i : Int) < (m : Int)
      · have hlt0 := jK hlt
        have hltN : decide (i < m) = true := jK (by omega)
        have hw : wrap64 ((i : Int) + 1) = ((i + 1 : Nat) : Int) := by have := HCA.out; unfold wrap64; omega
        obtain ⟨q1, q2, q3, q4, q5, q6⟩ := HQ.out
        obtain ⟨d, hd⟩ : ∃ d, m - i = d + 1 := ⟨m - i - 1, by omega⟩
        rw [hd, mkL] at q6
        obtain ⟨⟨x1, x2, x3⟩, hcl, q6⟩ := Option.bind_eq_some_iff.1 q6
        dsimp only at q6
        obtain ⟨z1, ez1⟩ : ∃ z1, z1 = nxtZ z := ⟨_, rfl⟩
        obtain ⟨z2, ez2⟩ : ∃ z2, z2 = nxtZ z1 := ⟨_, rfl⟩
        have hz1 := nxtZ_in z
        have hz2 := nxtZ_in z1
        unfold mkArg at hcl
        rw [← ez1] at hcl hz1 q6
        rw [← ez2] at hcl hz2 q6
        have HZ0 := jA (And.intro q3 q4)
        have HZ1 := jA hz1
        have HZ2 := jA hz2
        have HE1 := jA ez1
        have HE2 := jA ez2
        have HCL := jA hcl
        have HQ2 : Aside0 (i < m ∧ m - i ≤ gk ∧ acc.length = i ∧ m - (i + 1) = d ∧ mkL k l0 d z2 (acc ++ [⟨x1, x2, x3⟩]) = some res) := ⟨⟨by omega, q2, q5, by omega, q6⟩⟩
        clear q1 q2 q3 q4 q5 q6 hz1 hz2 ez1 ez2 hd hcl
        go_wp2_with (go_at_call 215; refine (next_1 z z1 HZ0.out HE1.out.symm w.heap.size _ (by first | exact HXS.out | exact jR HXS.out)).mono ?_; rintro e w6 ⟨rfl, e6⟩; obtain ⟨a6, b6, c6, d6, f6⟩ := mp_step e6 HXS.out HXR.out HXP.out HO.out HB.out (jX _); have HXS6 := jA a6; have HXR6 := jA b6; have HXP6 := jA c6; have HO6 := jA d6; have HB6 := jA f6; clear e6 a6 b6 c6 d6 f6; refine Aside0.out ?_)
        refine jA ?_
        obtain ⟨y, ey⟩ : ∃ y, y = Int.tmod z1 6 := ⟨_, rfl⟩
        have hy6 := ey.symm
        have HX : Aside0 (∃ x, x = (if y = 5 then wrap64 (Int.tmod z2 6 + 1) else Int.tmod z2 25) ∧ impl_clueOf.f k y x l0 = some (x1, x2, x3)) := ⟨by have h := HCL.out; rw [← ey] at h; exact ⟨_, rfl, h⟩⟩
        clear ey
        obtain ⟨x, ex, hcl2⟩ := HX.out
        have HCL2 := jA hcl2
        clear hcl2
        by_cases c5 : y = 5
        all_goals
          (first
            | (rw [if_pos c5] at ex
               have hd5 := jK c5
               have hq5 : (y == 5) = true := beq_iff_eq.2 c5
               have hx1 : IntKind.i64.wrap (Int.tmod z2 6 + 1) = x := by rw [IntKind.wrap_i64, ex]; first | rfl | (unfold wrap64; omega)
               have hx2 : wrap64 (Int.tmod z2 6 + 1) = x := ex.symm)
            | (rw [if_neg c5] at ex
               have hd5 := jV c5
               have hq5 : (y == 5) = false := by simp [c5]
               have hx2 : Int.tmod z2 25 = x := ex.symm))
          clear ex c5
          go_wp2_with (go_at_call 215; refine (next_1 z1 z2 HZ1.out HE2.out.symm w.heap.size _ (by first | exact HXS6.out | exact jR HXS6.out)).mono ?_; rintro e w7 ⟨rfl, e7⟩; obtain ⟨a7, b7, c7, d7, f7⟩ := mp_step e7 HXS6.out HXR6.out HXP6.out HO6.out HB6.out (jX _); have HXS7 := jA a7; have HXR7 := jA b7; have HXP7 := jA c7; have HO7 := jA d7; have HB7 := jA f7; clear e7 a7 b7 c7 d7 f7)
          have hp7 : w7.cell? ⟨gP, 0, none⟩ = some (.slice A acc.length c) := (jE HXP7.out 0).trans rfl
          have HC7 := jA (jY HR.out HB7.out)
          go_region_law (first
            | (go_simp; go_at_call 216; refine (impl_clueOf.calls k y x A0 c0 l0 x1 x2 x3 _ (by first | exact HC7.out | exact Kd.C_drew HC7.out | exact Kd.C_drewN HC7.out _) hc0 HCL2.out).mono ?_; rintro e w8 ⟨rfl, hb8⟩; have HB8 : Aside0 (Below w7.heap.size w7 w8) := ⟨by first | exact hb8 | exact jB (below_drew (jU _ _)) hb8⟩; have hp8 : w8.cell? ⟨gP, 0, none⟩ = some (.slice A acc.length c) := pw_cell_below HB8.out hp7; have hp8a : (w8.alloc (.cells #[.int .i64 x1, .int .i64 x2, .int .i64 x3] 58)).cell? ⟨gP, 0, none⟩ = some (.slice A acc.length c) := (jE (blk_alloc (jN HXP7.out HB8.out) _) 0).trans rfl; clear hb8)
            | (refine step_E (by rfl) (Kd.R_append_step k58 (w0 := w) w.heap.size (by rfl) (.tmp 46) (.tmp 51) 50 58 (.agg #[(.int .i64 0), (.int .i64 0), (.int .i64 0)]) 24 rfl Try.underlying50 info58 rfl (by decide) (by omega) (.slice A acc.length c) acc (⟨x1, x2, x3⟩ : S58) [.int .i64 x1, .int .i64 x2, .int .i64 x3] (fun _ => True) (fun _ => False) rfl rfl ?aP (fun _ hk => hk.elim) (fun _ _ => trivial) ?aO ?aB ?aS ?aL ?_); (case aP => exact k58_mkM _ _ _ (⟨x1, x2, x3⟩ : S58)); (case aO => exact Kd.R_below HO7.out HB8.out); (case aB => exact below_then HB7.out HB7.out.size HB8.out); (case aS => exact Nat.le_trans HB7.out.size HB8.out.size); (case aL => have := HQ2.out; have := HCA.out; omega); intro v9 w9 ho hb hg hat; obtain ⟨A9, c9, rfl⟩ := jq ho; have HNE := fun {o} (h : w8.heap[gP]? = some (.cells o 52 (0, 0))) => Kd.R_ne (Kd.R_below HO7.out HB8.out) h (by decide); have HXP9 := jA (js (jN HXP7.out HB8.out) hg (Kd.R_ne (Kd.R_below HO7.out HB8.out) (jN HXP7.out HB8.out) (by decide))); have HXR9 := jA (js (jN HXR7.out HB8.out) hg (Kd.R_ne (Kd.R_below HO7.out HB8.out) (jN HXR7.out HB8.out) (by decide))); have HXS9 := jA (js (jN HXS7.out HB8.out) hg (Kd.R_ne (Kd.R_below HO7.out HB8.out) (jN HXS7.out HB8.out) (by decide))); have hp9 : w9.cell? ⟨gP, 0, none⟩ = some (.slice A acc.length c) := (jE HXP9.out 0).trans rfl; have hf9 := jF HXP9.out 0; have HO9 := jA ho; have HB9 := jA hb; clear HNE hb ho hg hat))
          all_goals
            go_wp2
            go_roundg (gk - 1)
            case measure => have := HQ2.out; omega
            case rel =>
              refine ⟨i + 1, z2, acc ++ [⟨x1, x2, x3⟩], A9, c9, (by first | rfl | rw [hw]), ⟨?_⟩, ⟨?_⟩, ⟨?_⟩, ⟨?_⟩, ⟨?_⟩, ⟨?_⟩⟩
              · have h := HQ2.out; have hz := HZ2.out; exact ⟨by omega, by omega, hz.1, hz.2, by simp; omega, by rw [h.2.2.2.1]; exact h.2.2.2.2⟩
              · exact jk HXS9.out (p := ⟨gP, 0, none⟩) (Ne.symm HGP.out.2.1) _
              · exact jk HXR9.out (p := ⟨gP, 0, none⟩) (Ne.symm HGP.out.2.2) _
              · simp only [List.length_append, List.length_singleton]; exact jp HXP9.out 0 _ rfl
              · simp only [List.length_append, List.length_singleton] at HO9 ⊢; exact Kd.R_set HO9.out HXP9.out (by decide) 0 _
              · exact Below.setCell HB9.out (p := ⟨gP, 0, none⟩) HGP.out.1 _
      · have e : i = m := by have := HQ.out; omega
        subst e
        have hlt0 := jV hlt
        have hltN : decide (i < i) = false := jV (by omega)
        obtain ⟨q1, q2, q3, q4, q5, q6⟩ := HQ.out
        rw [Nat.sub_self] at q6
        injection q6 with q6
        subst q6
        clear q1 q2 q3 q4 q5
        have hp : wr.cell? ⟨gP, 0, none⟩ = some (.slice A acc.length c) := (jE HXP.out 0).trans rfl
        have hr0 : wr.cell? ⟨w.heap.size + 1, 0, none⟩ = some (.slice none 0 0) := (jE HXR.out 0).trans rfl
        have hr2 := jF HXR.out 0
        go_wp2
        refine bodyPost_ret (results_ct rfl _ _ (w.heap.size + 1) 52 #[.slice A acc.length c] (0, 0) _ rfl (jp HXR.out 0 _ rfl) Try.underlying52 rfl (by kernel_rfl)) rfl ?_
        exact ⟨_, rfl, Kd.R_set HO.out HXR.out (by decide) 0 _, Below.setCell HB.out (p := ⟨w.heap.size + 1, 0, none⟩) (by simp) _⟩


/-! ### spec_l1In: function 193 -/
def spec_l1In.f (a0 : Int) (a1 : Int) (a2 : Int) : Option (Bool) := if a0 ≥ a1 then (some (decide (a0 ≤ a2))) else (some false)
theorem spec_l1In.calls (a0 : Int) (a1 : Int) (a2 : Int) (r : Bool) (w : World) (h : spec_l1In.f a0 a1 a2 = some r) :
 Calls Try.prog 193 #[.int .i64 a0, .int .i64 a1, .int .i64 a2] w fun e w' => e = .returned (.bool r) ∧ Drawn0 w w' := by
 have H := h; unfold spec_l1In.f at H
 clear h
 replace H := Ic H; rcases H with ⟨c4, H⟩ | ⟨c4, H⟩
 · have c4b0 : decide (a1 ≤ a0) = true := jK c4
   clear c4
   obtain rfl := jM H
   go_enter Try.func193, Try.ntmps193
   go_wp2
   go_ret
   exact ⟨Rs, Dr⟩
 have c4b0 : decide (a1 ≤ a0) = false := jV c4
 clear c4
 obtain rfl := jM H
 go_enter Try.func193, Try.ntmps193
 go_wp2
 go_ret
 exact ⟨Rs, Dr⟩

end Go.Proofs.Ytgeoihhibglhgaa.PFnPiecesHidden
