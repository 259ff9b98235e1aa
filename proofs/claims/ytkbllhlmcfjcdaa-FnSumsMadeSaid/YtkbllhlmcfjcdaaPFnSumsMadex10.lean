-- MADE FOR THIS CLAIM by wip/xp/xprint.py (with the kit's print; some functions' contracts proved by hand)
import Derived.Test.YtkbllhlmcfjcdaaPFnSumsMadex0
import Derived.Test.YtkbllhlmcfjcdaaPFnSumsMadex1
import Derived.Test.YtkbllhlmcfjcdaaPFnSumsMadex3
import Derived.Test.YtkbllhlmcfjcdaaPFnSumsMadex4
import Derived.Test.YtkbllhlmcfjcdaaPFnSumsMadex5
import Derived.Test.YtkbllhlmcfjcdaaPFnSumsMadex8
import Derived.Test.YtkbllhlmcfjcdaaPFnSumsMadex9
set_option maxHeartbeats 8000000
set_option maxRecDepth 100000
namespace Go.Proofs.Ytkbllhlmcfjcdaa.PFnSumsMade
open Go.RowKit Go.Proofs.YtkbllhlmcfjcdaaW.PrintWords Go.Proofs.YtkbllhlmcfjcdaaW.PrintLast Go.Proofs.YtkbllhlmcfjcdaaW.PrintMore Go.Proofs.Ytkbllhlmcfjcdaa.Xmv
attribute [local go_sem] max2_int min2_int max_two min_two max_three min_three max_four min_four   -- for this text's walks alone
set_option linter.unusedVariables false
set_option linter.unusedSimpArgs false

/-! ### spec_l1Cur_total: function 108 -/
def spec_l1Cur_total.l0 : Nat → Int → List Int → Int → Int → List Int → Int → Int → Option (Int × Int × Int)
 | 0, _, _, _, _, _, _, _ => none
 | k + 1, x5, x25, x26, x27, x1000, x1001, x1002 => if x27 < x26 then (if 0 ≤ x27 then (if x27 < (x25.length : Int) then ((spec_l1Cur_one.f x1000 x1001 x1002 2).bind fun bt423 => (if bt423.1 = true then (spec_l1Cur_total.l0 k (wrap64 (x5 + (rd x25 x27))) x25 x26 (wrap64 (x27 + 1)) x1000 bt423.2.1 bt423.2.2) else (spec_l1Cur_total.l0 k x5 x25 x26 (wrap64 (x27 + 1)) x1000 bt423.2.1 bt423.2.2))) else (none)) else (none)) else (some (x5, x1001, x1002))
def spec_l1Cur_total.f (k : Nat) (s0_0 : List Int) (s0_1 : Int) (s0_2 : Int) (l1 : List Int) : Option (Int × Int × Int) := (spec_l1Cur_one.f s0_0 s0_1 s0_2 12).bind fun bt402 => (if bt402.1 = true then ((spec_l1Cur_among.f s0_0 bt402.2.1 bt402.2.2 (([(-1), 0, 200000, 200001, 4611686018427387904] : List Int))).bind fun bt408 => (some (bt408.1, bt408.2.1, bt408.2.2))) else ((spec_piGood.f k l1).bind fun t411 => (if t411 = true then ((spec_l1Cur_one.f s0_0 bt402.2.1 bt402.2.2 3).bind fun bt415 => (if bt415.1 = true then ((spec_piSum.f k l1).bind fun t418 => ((spec_l1Cur_pick.f s0_0 bt415.2.1 bt415.2.2 (wrap64 (t418 + 2))).bind fun bt419 => (some (bt419.1, bt419.2.1, bt419.2.2)))) else (spec_l1Cur_total.l0 k 0 l1 (l1.length : Int) 0 s0_0 bt415.2.1 bt415.2.2))) else ((spec_l1Cur_pick.f s0_0 bt402.2.1 bt402.2.2 20).bind fun bt412 => (some (bt412.1, bt412.2.1, bt412.2.2))))))
theorem spec_l1Cur_total.calls (k : Nat) (g : Nat) (s0_0 : List Int) (s0_1 : Int) (s0_2 : Int) (A1 : Option Addr) (c1 : Nat) (l1 : List Int) (r1 : Int) (r2 : Int) (r3 : Int) (w0 w : World) (hI : IsS60 w0 w g s0_0 s0_1 s0_2) (hB : Below w0.heap.size w0 w) (hr1 : Kd.C (Kd.int .i64) w A1 l1.length l1) (hc1 : l1.length ≤ c1) (hf1 : ∀ ad, A1 = some ad → 0 < l1.length → ad.block ≠ g) (h : spec_l1Cur_total.f k s0_0 s0_1 s0_2 l1 = some (r1, r2, r3)) :
 Calls Try.prog 108 #[.pointer (some ⟨g, 0, none⟩), .slice A1 l1.length c1] w fun e w' => e = .returned (.int .i64 r1) ∧ IsS60 w0 w' g s0_0 r2 r3 ∧ Below w0.heap.size w0 w' ∧ KeepBut w w' g none := by
 have HR1 := Aside0.mk hr1
 have HC1 := Aside0.mk hc1
 clear hr1 hc1
 have HI0 := Aside0.mk hI
 have HK := Aside0.mk (KeepBut.refl w g none)
 have HL := Aside0.mk hB.size
 clear hI
 have HW0 := Aside0.mk hB.size
 have HB := Aside0.mk hB
 clear hB
 have H := h; unfold spec_l1Cur_total.f at H
 clear h
 replace H := Option.bind_eq_some_iff.mp H
 obtain ⟨⟨t402, t403, t404⟩, A30, H⟩ := H
 have A3 := Aside0.mk A30
 clear A30
 replace H := Iw H; rcases H with ⟨rfl, H⟩ | ⟨rfl, H⟩
 · obtain ⟨y405, hy405⟩ : ∃ y_ : List Int, y_ = (([(-1), 0, 200000, 200001, 4611686018427387904] : List Int)) := ⟨_, rfl⟩
   replace H : ((spec_l1Cur_among.f s0_0 t403 t404 y405).bind fun bt408 => (some (bt408.1, bt408.2.1, bt408.2.2))) = some (r1, r2, r3) := by first | (rw [hy405]; with_reducible exact H) | (have H2_ := (Option.bind_some _ _).symm.trans H; rw [hy405]; with_reducible exact H2_) | (have H2_ := (Option.bind_some _ _).symm.trans H; with_reducible exact H2_) | with_reducible exact H | (rw [hy405]; exact H) | exact H
   have Ny405 := Aside0.mk hy405
   clear hy405
   replace H := Option.bind_eq_some_iff.mp H
   obtain ⟨⟨t408, t409, t410⟩, A50, H⟩ := H
   have A5 := Aside0.mk A50
   clear A50
   simp only [Option.some.injEq, Prod.mk.injEq] at H
   obtain ⟨rfl, rfl, rfl⟩ := H
   go_enter Try.func108, Try.ntmps108
   go_wp2_with (first | (refine Gl 9 #[.pointer (some ⟨g, 0, none⟩), .int .i64 12] Try.func91 ?_; (with_reducible refine (spec_l1Cur_one.calls g s0_0 s0_1 s0_2 12 true t403 t404 w0 _ ?side1 ?side2 A3.out).mono ?_); (case side1 => repeat (first | (with_reducible first | exact HI0.out | apply IsS60.alloc | apply IsS60.drewN | apply IsS60.drew | apply IsS60.set_1 | apply IsS60.set_2) | exact HI0.out)); (case side2 => repeat (first | (with_reducible first | exact HB.out | apply below_alloc | apply pw_below_drewN | apply below_drew1 | refine below_set ?_ (IsS60.ge HI0.out)) | exact HB.out)); rintro e w6 ⟨rfl, hi, hb, hk⟩; refine ⟨_, rfl, ?_⟩; replace HK := Aside0.mk (KeepBut.trans (by repeat (first | (with_reducible first | exact HK.out | apply KeepBut.set_ | apply keep_drewN | apply keep_drew | apply keep_alloc) | exact HK.out)) hk (.inl rfl)); replace HB := Aside0.mk (hb); replace HI0 := Aside0.mk (hi); clear hb hk hi) | ((with_reducible refine gate_dst (N := 11) rfl ?_); refine Kd.R_lit (Kd.int .i64) _ 3 ?hg (N := 11) ?hd (xs := ([(-1), 0, 200000, 200001, 4611686018427387904] : List Int)) (inner := [.int .i64 (-1), .int .i64 0, .int .i64 200000, .int .i64 200001, .int .i64 4611686018427387904]) (ok := fun _ => True) (okp := fun _ => True) ?hr ?hp (fun _ hk => hk) trivial (Below.refl _ _) (Nat.le_refl _) (by simp) ?_; (case hd => rfl); (case hg => rfl); (case hr => first | (go_simp; done) | (go_simp; rfl)); (case hp => exact (Reps.one (show Kd.M (Kd.int .i64) _ _ _ (-1) [.int .i64 (-1)] from rfl) (Reps.one (show Kd.M (Kd.int .i64) _ _ _ 0 [.int .i64 0] from rfl) (Reps.one (show Kd.M (Kd.int .i64) _ _ _ 200000 [.int .i64 200000] from rfl) (Reps.one (show Kd.M (Kd.int .i64) _ _ _ 200001 [.int .i64 200001] from rfl) (Reps.one (show Kd.M (Kd.int .i64) _ _ _ 4611686018427387904 [.int .i64 4611686018427387904] from rfl) (Reps.none _ _))))))); intro v406 w7 ho8 hb hg_ hnew_; clear hg_ hnew_; (first | rw [← Ny405.out] at ho8 | (simp only [Int.reduceToNat] at ho8; rw [← Ny405.out] at ho8)); have HO407 := Aside0.mk (Kd.R_lower ho8 (keep_size (w := w) (g := g) (row := none) (by repeat (first | (with_reducible first | exact HK.out | apply KeepBut.set_ | apply keep_drewN | apply keep_drew | apply keep_alloc) | exact HK.out)))); replace HK := Aside0.mk (KeepBut.trans (by repeat (first | (with_reducible first | exact HK.out | apply KeepBut.set_ | apply keep_drewN | apply keep_drew | apply keep_alloc) | exact HK.out)) (KeepBut.of_below hb g none) (.inl rfl)); replace HB := Aside0.mk (below_step (by repeat (first | (with_reducible first | exact HB.out | apply below_alloc | apply pw_below_drewN | apply below_drew1 | refine below_set ?_ (IsS60.ge HI0.out)) | exact HB.out)) hb); replace HI0 := Aside0.mk (IsS60.below (by repeat (first | (with_reducible first | exact HI0.out | apply IsS60.alloc | apply IsS60.drewN | apply IsS60.drew | apply IsS60.set_1 | apply IsS60.set_2) | exact HI0.out)) hb); clear hb ho8; obtain ⟨Ao9, co9, eo9⟩ := Kd.R_slice HO407.out; subst eo9) | (refine Gl 12 #[.pointer (some ⟨g, 0, none⟩), .slice Ao9 y405.length co9] Try.func92 ?_; (with_reducible refine (spec_l1Cur_among.calls g s0_0 t403 t404 _ _ y405 t408 t409 t410 w0 _ ?side1 ?side2 (Cm (Kd.R_reads' HO407.out).2.2) ((Kd.R_reads' HO407.out).2.1) ?side5 A5.out).mono ?_); (case side1 => repeat (first | (with_reducible first | exact HI0.out | apply IsS60.alloc | apply IsS60.drewN | apply IsS60.drew | apply IsS60.set_1 | apply IsS60.set_2) | exact HI0.out)); (case side2 => repeat (first | (with_reducible first | exact HB.out | apply below_alloc | apply pw_below_drewN | apply below_drew1 | refine below_set ?_ (IsS60.ge HI0.out)) | exact HB.out)); (case side5 => exact far_slice (IsS60.own_ne HI0.out HO407.out (by decide))); rintro e w10 ⟨rfl, hi, hb, hk⟩; refine ⟨_, rfl, ?_⟩; replace HO407 := Aside0.mk (Kd.R_mono (Kd.R_keep (IsS60.apart (show IsS60 w0 _ g s0_0 t403 t404 from by repeat (first | (with_reducible first | exact HI0.out | apply IsS60.alloc | apply IsS60.drewN | apply IsS60.drew | apply IsS60.set_1 | apply IsS60.set_2) | exact HI0.out)) (Rm HO407.out) (by decide)) hk (fun _ h => h.2)) (fun _ h => h.1)); replace HK := Aside0.mk (KeepBut.trans (by repeat (first | (with_reducible first | exact HK.out | apply KeepBut.set_ | apply keep_drewN | apply keep_drew | apply keep_alloc) | exact HK.out)) hk (.inl rfl)); replace HB := Aside0.mk (hb); replace HI0 := Aside0.mk (hi); clear hb hk hi))
   go_ret
   exact ⟨Re, by repeat (first | (with_reducible first | exact HI0.out | apply IsS60.alloc | apply IsS60.drewN | apply IsS60.drew | apply IsS60.set_1 | apply IsS60.set_2) | exact HI0.out), by repeat (first | (with_reducible first | exact HB.out | apply below_alloc | apply pw_below_drewN | apply below_drew1 | refine below_set ?_ (IsS60.ge HI0.out)) | exact HB.out), by repeat (first | (with_reducible first | exact HK.out | apply KeepBut.set_ | apply keep_drewN | apply keep_drew | apply keep_alloc) | exact HK.out)⟩
 replace H := Option.bind_eq_some_iff.mp H
 obtain ⟨t411, A110, H⟩ := H
 have A11 := Aside0.mk A110
 clear A110
 replace H := Iw H; rcases H with ⟨rfl, H⟩ | ⟨rfl, H⟩
 · replace H := Option.bind_eq_some_iff.mp H
   obtain ⟨⟨t415, t416, t417⟩, A130, H⟩ := H
   have A13 := Aside0.mk A130
   clear A130
   replace H := Iw H; rcases H with ⟨rfl, H⟩ | ⟨rfl, H⟩
   · replace H := Option.bind_eq_some_iff.mp H
     obtain ⟨t418, A150, H⟩ := H
     have A15 := Aside0.mk A150
     clear A150
     replace H := Option.bind_eq_some_iff.mp H
     obtain ⟨⟨t419, t420, t421⟩, A160, H⟩ := H
     have A16 := Aside0.mk A160
     clear A160
     simp only [Option.some.injEq, Prod.mk.injEq] at H
     obtain ⟨rfl, rfl, rfl⟩ := H
     go_enter Try.func108, Try.ntmps108
     go_wp2_with (first | (refine Gl 9 #[.pointer (some ⟨g, 0, none⟩), .int .i64 12] Try.func91 ?_; (with_reducible refine (spec_l1Cur_one.calls g s0_0 s0_1 s0_2 12 false t403 t404 w0 _ ?side1 ?side2 A3.out).mono ?_); (case side1 => repeat (first | (with_reducible first | exact HI0.out | apply IsS60.alloc | apply IsS60.drewN | apply IsS60.drew | apply IsS60.set_1 | apply IsS60.set_2) | exact HI0.out)); (case side2 => repeat (first | (with_reducible first | exact HB.out | apply below_alloc | apply pw_below_drewN | apply below_drew1 | refine below_set ?_ (IsS60.ge HI0.out)) | exact HB.out)); rintro e w17 ⟨rfl, hi, hb, hk⟩; refine ⟨_, rfl, ?_⟩; replace HK := Aside0.mk (KeepBut.trans (by repeat (first | (with_reducible first | exact HK.out | apply KeepBut.set_ | apply keep_drewN | apply keep_drew | apply keep_alloc) | exact HK.out)) hk (.inl rfl)); replace HB := Aside0.mk (hb); replace HI0 := Aside0.mk (hi); clear hb hk hi) | (refine Gl 14 #[.slice A1 l1.length c1] Try.func71 ?_; (with_reducible refine (spec_piGood.calls k _ _ l1 true _ ?side1 HC1.out A11.out).mono ?_); (case side1 => exact Kd.C_keep 0 HR1.out (by repeat (first | (with_reducible first | exact HK.out | apply KeepBut.set_ | apply keep_drewN | apply keep_drew | apply keep_alloc) | exact HK.out)) hf1); rintro e w' ⟨rfl, ⟨nd, rfl⟩⟩; refine ⟨_, rfl, ?_⟩) | (refine Gl 19 #[.pointer (some ⟨g, 0, none⟩), .int .i64 3] Try.func91 ?_; (with_reducible refine (spec_l1Cur_one.calls g s0_0 t403 t404 3 true t416 t417 w0 _ ?side1 ?side2 A13.out).mono ?_); (case side1 => repeat (first | (with_reducible first | exact HI0.out | apply IsS60.alloc | apply IsS60.drewN | apply IsS60.drew | apply IsS60.set_1 | apply IsS60.set_2) | exact HI0.out)); (case side2 => repeat (first | (with_reducible first | exact HB.out | apply below_alloc | apply pw_below_drewN | apply below_drew1 | refine below_set ?_ (IsS60.ge HI0.out)) | exact HB.out)); rintro e w18 ⟨rfl, hi, hb, hk⟩; refine ⟨_, rfl, ?_⟩; replace HK := Aside0.mk (KeepBut.trans (by repeat (first | (with_reducible first | exact HK.out | apply KeepBut.set_ | apply keep_drewN | apply keep_drew | apply keep_alloc) | exact HK.out)) hk (.inl rfl)); replace HB := Aside0.mk (hb); replace HI0 := Aside0.mk (hi); clear hb hk hi) | (refine Gl 22 #[.slice A1 l1.length c1] Try.func78 ?_; (with_reducible refine (spec_piSum.calls k _ _ l1 t418 _ ?side1 HC1.out A15.out).mono ?_); (case side1 => exact Kd.C_keep 0 HR1.out (by repeat (first | (with_reducible first | exact HK.out | apply KeepBut.set_ | apply keep_drewN | apply keep_drew | apply keep_alloc) | exact HK.out)) hf1); rintro e w' ⟨rfl, ⟨nd, rfl⟩⟩; refine ⟨_, rfl, ?_⟩) | (refine Gl 24 #[.pointer (some ⟨g, 0, none⟩), .int .i64 (wrap64 (t418 + 2))] Try.func90 ?_; (with_reducible refine (spec_l1Cur_pick.calls g s0_0 t416 t417 (wrap64 (t418 + 2)) t419 t420 t421 w0 _ ?side1 ?side2 A16.out).mono ?_); (case side1 => repeat (first | (with_reducible first | exact HI0.out | apply IsS60.alloc | apply IsS60.drewN | apply IsS60.drew | apply IsS60.set_1 | apply IsS60.set_2) | exact HI0.out)); (case side2 => repeat (first | (with_reducible first | exact HB.out | apply below_alloc | apply pw_below_drewN | apply below_drew1 | refine below_set ?_ (IsS60.ge HI0.out)) | exact HB.out)); rintro e w19 ⟨rfl, hi, hb, hk⟩; refine ⟨_, rfl, ?_⟩; replace HK := Aside0.mk (KeepBut.trans (by repeat (first | (with_reducible first | exact HK.out | apply KeepBut.set_ | apply keep_drewN | apply keep_drew | apply keep_alloc) | exact HK.out)) hk (.inl rfl)); replace HB := Aside0.mk (hb); replace HI0 := Aside0.mk (hi); clear hb hk hi))
     go_ret
     exact ⟨Re, by repeat (first | (with_reducible first | exact HI0.out | apply IsS60.alloc | apply IsS60.drewN | apply IsS60.drew | apply IsS60.set_1 | apply IsS60.set_2) | exact HI0.out), by repeat (first | (with_reducible first | exact HB.out | apply below_alloc | apply pw_below_drewN | apply below_drew1 | refine below_set ?_ (IsS60.ge HI0.out)) | exact HB.out), by repeat (first | (with_reducible first | exact HK.out | apply KeepBut.set_ | apply keep_drewN | apply keep_drew | apply keep_alloc) | exact HK.out)⟩
   have H' := Aside0.mk H
   clear H
   go_enter Try.func108, Try.ntmps108
   go_wp2_with (first | (refine Gl 9 #[.pointer (some ⟨g, 0, none⟩), .int .i64 12] Try.func91 ?_; (with_reducible refine (spec_l1Cur_one.calls g s0_0 s0_1 s0_2 12 false t403 t404 w0 _ ?side1 ?side2 A3.out).mono ?_); (case side1 => repeat (first | (with_reducible first | exact HI0.out | apply IsS60.alloc | apply IsS60.drewN | apply IsS60.drew | apply IsS60.set_1 | apply IsS60.set_2) | exact HI0.out)); (case side2 => repeat (first | (with_reducible first | exact HB.out | apply below_alloc | apply pw_below_drewN | apply below_drew1 | refine below_set ?_ (IsS60.ge HI0.out)) | exact HB.out)); rintro e w20 ⟨rfl, hi, hb, hk⟩; refine ⟨_, rfl, ?_⟩; replace HK := Aside0.mk (KeepBut.trans (by repeat (first | (with_reducible first | exact HK.out | apply KeepBut.set_ | apply keep_drewN | apply keep_drew | apply keep_alloc) | exact HK.out)) hk (.inl rfl)); replace HB := Aside0.mk (hb); replace HI0 := Aside0.mk (hi); clear hb hk hi) | (refine Gl 14 #[.slice A1 l1.length c1] Try.func71 ?_; (with_reducible refine (spec_piGood.calls k _ _ l1 true _ ?side1 HC1.out A11.out).mono ?_); (case side1 => exact Kd.C_keep 0 HR1.out (by repeat (first | (with_reducible first | exact HK.out | apply KeepBut.set_ | apply keep_drewN | apply keep_drew | apply keep_alloc) | exact HK.out)) hf1); rintro e w' ⟨rfl, ⟨nd, rfl⟩⟩; refine ⟨_, rfl, ?_⟩) | (refine Gl 19 #[.pointer (some ⟨g, 0, none⟩), .int .i64 3] Try.func91 ?_; (with_reducible refine (spec_l1Cur_one.calls g s0_0 t403 t404 3 false t416 t417 w0 _ ?side1 ?side2 A13.out).mono ?_); (case side1 => repeat (first | (with_reducible first | exact HI0.out | apply IsS60.alloc | apply IsS60.drewN | apply IsS60.drew | apply IsS60.set_1 | apply IsS60.set_2) | exact HI0.out)); (case side2 => repeat (first | (with_reducible first | exact HB.out | apply below_alloc | apply pw_below_drewN | apply below_drew1 | refine below_set ?_ (IsS60.ge HI0.out)) | exact HB.out)); rintro e w21 ⟨rfl, hi, hb, hk⟩; refine ⟨_, rfl, ?_⟩; replace HK := Aside0.mk (KeepBut.trans (by repeat (first | (with_reducible first | exact HK.out | apply KeepBut.set_ | apply keep_drewN | apply keep_drew | apply keep_alloc) | exact HK.out)) hk (.inl rfl)); replace HB := Aside0.mk (hb); replace HI0 := Aside0.mk (hi); clear hb hk hi))
   go_loopg [5, 27] k (fun kq v5 v27 w' => ∃ (x5_1 : Int) (x27_1 : Int) (x1001_1 : Int) (x1002_1 : Int), v5 = .int .i64 x5_1 ∧ v27 = .int .i64 x27_1 ∧ Aside0 (spec_l1Cur_total.l0 kq x5_1 l1 (l1.length : Int) x27_1 s0_0 x1001_1 x1002_1 = some (r1, r2, r3)) ∧ Aside0 (kq ≤ k) ∧ Aside0 (IsS60 w0 w' g s0_0 x1001_1 x1002_1) ∧ Aside0 (KeepBut w w' g none) ∧ Aside0 (Below w0.heap.size w0 w'))
   case atStart => exact ⟨(0), (0), (t416), (t417), Rs, Rs, H', ⟨Nat.le_refl _⟩, ⟨by repeat (first | (with_reducible first | exact HI0.out | apply IsS60.alloc | apply IsS60.drewN | apply IsS60.drew | apply IsS60.set_1 | apply IsS60.set_2) | exact HI0.out)⟩, ⟨by repeat (first | (with_reducible first | exact HK.out | apply KeepBut.set_ | apply keep_drewN | apply keep_drew | apply keep_alloc) | exact HK.out)⟩, ⟨by repeat (first | (with_reducible first | exact HB.out | apply below_alloc | apply pw_below_drewN | apply below_drew1 | refine below_set ?_ (IsS60.ge HI0.out)) | exact HB.out)⟩⟩
   case round =>
    clear H'
    try clear c1
    obtain ⟨x5_1, x27_1, x1001_1, x1002_1, rfl, rfl, HA, HK1, HI0, HK, HB⟩ := hrel
    cases gk with
    | zero => exact absurd HA.out (by simp [spec_l1Cur_total.l0])
    | succ k1 =>
     have H := HA.out
     clear HA
     simp only [spec_l1Cur_total.l0] at H
     replace H := Ic H; rcases H with ⟨c22, H⟩ | ⟨c22, H⟩
     · have c22b0 := decide_eq_true c22
       clear c22
       replace H := Ip H; obtain ⟨c23, H⟩ := H
       have c23b0 := decide_eq_true c23
       clear c23
       replace H := Ip H; obtain ⟨c24, H⟩ := H
       have c24b0 := decide_eq_true c24
       clear c24
       replace H := Option.bind_eq_some_iff.mp H
       obtain ⟨⟨t423, t424, t425⟩, A250, H⟩ := H
       have A25 := Aside0.mk A250
       clear A250
       replace H := Iw H; rcases H with ⟨rfl, H⟩ | ⟨rfl, H⟩
       · have H' := Aside0.mk H
         clear H
         obtain ⟨p422, q422, ad422, e422, hx422_0⟩ := Ai HR1.out x27_1
         cases e422
         replace hx422_0 := keep_cell HK.out hx422_0 (by have h1_ := of_eq_true p422; have h2_ := of_eq_true q422; first | (rw [add_block]; exact hf1 _ rfl (by omega)) | exact hf1 _ rfl (by omega) | exact hf1 ad422 rfl (by omega))
         go_wp2_with (first | (refine Gl 32 #[.pointer (some ⟨g, 0, none⟩), .int .i64 2] Try.func91 ?_; (with_reducible refine (spec_l1Cur_one.calls g s0_0 x1001_1 x1002_1 2 true t424 t425 w0 _ ?side1 ?side2 A25.out).mono ?_); (case side1 => repeat (first | (with_reducible first | exact HI0.out | apply IsS60.alloc | apply IsS60.drewN | apply IsS60.drew | apply IsS60.set_1 | apply IsS60.set_2) | exact HI0.out)); (case side2 => repeat (first | (with_reducible first | exact HB.out | apply below_alloc | apply pw_below_drewN | apply below_drew1 | refine below_set ?_ (IsS60.ge HI0.out)) | exact HB.out)); rintro e w27 ⟨rfl, hi, hb, hk⟩; refine ⟨_, rfl, ?_⟩; replace HK := Aside0.mk (KeepBut.trans (by repeat (first | (with_reducible first | exact HK.out | apply KeepBut.set_ | apply keep_drewN | apply keep_drew | apply keep_alloc) | exact HK.out)) hk (.inl rfl)); replace HB := Aside0.mk (hb); replace HI0 := Aside0.mk (hi); clear hb hk hi))
         go_roundg k1
         case measure => have := HK1.out; omega
         case rel => exact ⟨(wrap64 (x5_1 + (rd l1 x27_1))), (wrap64 (x27_1 + 1)), (t424), (t425), Rs, Rs, H', ⟨by have := HK1.out; omega⟩, ⟨by repeat (first | (with_reducible first | exact HI0.out | apply IsS60.alloc | apply IsS60.drewN | apply IsS60.drew | apply IsS60.set_1 | apply IsS60.set_2) | exact HI0.out)⟩, ⟨by repeat (first | (with_reducible first | exact HK.out | apply KeepBut.set_ | apply keep_drewN | apply keep_drew | apply keep_alloc) | exact HK.out)⟩, ⟨by repeat (first | (with_reducible first | exact HB.out | apply below_alloc | apply pw_below_drewN | apply below_drew1 | refine below_set ?_ (IsS60.ge HI0.out)) | exact HB.out)⟩⟩
       have H' := Aside0.mk H
       clear H
       obtain ⟨p422, q422, ad422, e422, hx422_0⟩ := Ai HR1.out x27_1
       cases e422
       replace hx422_0 := keep_cell HK.out hx422_0 (by have h1_ := of_eq_true p422; have h2_ := of_eq_true q422; first | (rw [add_block]; exact hf1 _ rfl (by omega)) | exact hf1 _ rfl (by omega) | exact hf1 ad422 rfl (by omega))
       go_wp2_with (first | (refine Gl 32 #[.pointer (some ⟨g, 0, none⟩), .int .i64 2] Try.func91 ?_; (with_reducible refine (spec_l1Cur_one.calls g s0_0 x1001_1 x1002_1 2 false t424 t425 w0 _ ?side1 ?side2 A25.out).mono ?_); (case side1 => repeat (first | (with_reducible first | exact HI0.out | apply IsS60.alloc | apply IsS60.drewN | apply IsS60.drew | apply IsS60.set_1 | apply IsS60.set_2) | exact HI0.out)); (case side2 => repeat (first | (with_reducible first | exact HB.out | apply below_alloc | apply pw_below_drewN | apply below_drew1 | refine below_set ?_ (IsS60.ge HI0.out)) | exact HB.out)); rintro e w28 ⟨rfl, hi, hb, hk⟩; refine ⟨_, rfl, ?_⟩; replace HK := Aside0.mk (KeepBut.trans (by repeat (first | (with_reducible first | exact HK.out | apply KeepBut.set_ | apply keep_drewN | apply keep_drew | apply keep_alloc) | exact HK.out)) hk (.inl rfl)); replace HB := Aside0.mk (hb); replace HI0 := Aside0.mk (hi); clear hb hk hi))
       go_roundg k1
       case measure => have := HK1.out; omega
       case rel => exact ⟨(x5_1), (wrap64 (x27_1 + 1)), (t424), (t425), Rs, Rs, H', ⟨by have := HK1.out; omega⟩, ⟨by repeat (first | (with_reducible first | exact HI0.out | apply IsS60.alloc | apply IsS60.drewN | apply IsS60.drew | apply IsS60.set_1 | apply IsS60.set_2) | exact HI0.out)⟩, ⟨by repeat (first | (with_reducible first | exact HK.out | apply KeepBut.set_ | apply keep_drewN | apply keep_drew | apply keep_alloc) | exact HK.out)⟩, ⟨by repeat (first | (with_reducible first | exact HB.out | apply below_alloc | apply pw_below_drewN | apply below_drew1 | refine below_set ?_ (IsS60.ge HI0.out)) | exact HB.out)⟩⟩
     have c22b0 := decide_eq_false c22
     clear c22
     simp only [Option.some.injEq, Prod.mk.injEq] at H
     obtain ⟨rfl, rfl, rfl⟩ := H
     go_wp2
     go_ret
     exact ⟨Re, by repeat (first | (with_reducible first | exact HI0.out | apply IsS60.alloc | apply IsS60.drewN | apply IsS60.drew | apply IsS60.set_1 | apply IsS60.set_2) | exact HI0.out), by repeat (first | (with_reducible first | exact HB.out | apply below_alloc | apply pw_below_drewN | apply below_drew1 | refine below_set ?_ (IsS60.ge HI0.out)) | exact HB.out), by repeat (first | (with_reducible first | exact HK.out | apply KeepBut.set_ | apply keep_drewN | apply keep_drew | apply keep_alloc) | exact HK.out)⟩
 replace H := Option.bind_eq_some_iff.mp H
 obtain ⟨⟨t412, t413, t414⟩, A290, H⟩ := H
 have A29 := Aside0.mk A290
 clear A290
 simp only [Option.some.injEq, Prod.mk.injEq] at H
 obtain ⟨rfl, rfl, rfl⟩ := H
 go_enter Try.func108, Try.ntmps108
 go_wp2_with (first | (refine Gl 9 #[.pointer (some ⟨g, 0, none⟩), .int .i64 12] Try.func91 ?_; (with_reducible refine (spec_l1Cur_one.calls g s0_0 s0_1 s0_2 12 false t403 t404 w0 _ ?side1 ?side2 A3.out).mono ?_); (case side1 => repeat (first | (with_reducible first | exact HI0.out | apply IsS60.alloc | apply IsS60.drewN | apply IsS60.drew | apply IsS60.set_1 | apply IsS60.set_2) | exact HI0.out)); (case side2 => repeat (first | (with_reducible first | exact HB.out | apply below_alloc | apply pw_below_drewN | apply below_drew1 | refine below_set ?_ (IsS60.ge HI0.out)) | exact HB.out)); rintro e w30 ⟨rfl, hi, hb, hk⟩; refine ⟨_, rfl, ?_⟩; replace HK := Aside0.mk (KeepBut.trans (by repeat (first | (with_reducible first | exact HK.out | apply KeepBut.set_ | apply keep_drewN | apply keep_drew | apply keep_alloc) | exact HK.out)) hk (.inl rfl)); replace HB := Aside0.mk (hb); replace HI0 := Aside0.mk (hi); clear hb hk hi) | (refine Gl 14 #[.slice A1 l1.length c1] Try.func71 ?_; (with_reducible refine (spec_piGood.calls k _ _ l1 false _ ?side1 HC1.out A11.out).mono ?_); (case side1 => exact Kd.C_keep 0 HR1.out (by repeat (first | (with_reducible first | exact HK.out | apply KeepBut.set_ | apply keep_drewN | apply keep_drew | apply keep_alloc) | exact HK.out)) hf1); rintro e w' ⟨rfl, ⟨nd, rfl⟩⟩; refine ⟨_, rfl, ?_⟩) | (refine Gl 17 #[.pointer (some ⟨g, 0, none⟩), .int .i64 20] Try.func90 ?_; (with_reducible refine (spec_l1Cur_pick.calls g s0_0 t403 t404 20 t412 t413 t414 w0 _ ?side1 ?side2 A29.out).mono ?_); (case side1 => repeat (first | (with_reducible first | exact HI0.out | apply IsS60.alloc | apply IsS60.drewN | apply IsS60.drew | apply IsS60.set_1 | apply IsS60.set_2) | exact HI0.out)); (case side2 => repeat (first | (with_reducible first | exact HB.out | apply below_alloc | apply pw_below_drewN | apply below_drew1 | refine below_set ?_ (IsS60.ge HI0.out)) | exact HB.out)); rintro e w31 ⟨rfl, hi, hb, hk⟩; refine ⟨_, rfl, ?_⟩; replace HK := Aside0.mk (KeepBut.trans (by repeat (first | (with_reducible first | exact HK.out | apply KeepBut.set_ | apply keep_drewN | apply keep_drew | apply keep_alloc) | exact HK.out)) hk (.inl rfl)); replace HB := Aside0.mk (hb); replace HI0 := Aside0.mk (hi); clear hb hk hi))
 go_ret
 exact ⟨Re, by repeat (first | (with_reducible first | exact HI0.out | apply IsS60.alloc | apply IsS60.drewN | apply IsS60.drew | apply IsS60.set_1 | apply IsS60.set_2) | exact HI0.out), by repeat (first | (with_reducible first | exact HB.out | apply below_alloc | apply pw_below_drewN | apply below_drew1 | refine below_set ?_ (IsS60.ge HI0.out)) | exact HB.out), by repeat (first | (with_reducible first | exact HK.out | apply KeepBut.set_ | apply keep_drewN | apply keep_drew | apply keep_alloc) | exact HK.out)⟩

/-! ### spec_DrawCanMake: function 83 -/
-- GIVEN loop.example/g01305/spec.DrawCanMake rounds=1
-- NEEDS (*loop.example/g01305/spec.l1Cur).pieces ; (*loop.example/g01305/spec.l1Cur).total
/-- A row that lies apart from a block leads to no cell of it. -/
theorem F_far_int {W : World} {ok : Nat → Prop} {A : Option Addr} {n g : Nat} {xs : List Int} (h : Kd.F (Kd.int .i64) W ok A n xs) (hg : ¬ ok g) : ∀ ad, A = some ad → 0 < n → ad.block ≠ g := by
  rintro ad rfl hn e
  have hW := h { W with heap := W.heap.setIfInBounds g (.cells #[] 0) } (fun k hk hlt => by
    have hk' : g ≠ k := fun q => hg (q ▸ hk)
    simp [Array.getElem?_setIfInBounds, hk'])
  obtain ⟨ad', e', hc⟩ := hW.2.2 hn
  have hl : xs.length = n := hW.1
  obtain ⟨x, hx⟩ : ∃ x, xs[0]? = some x := ⟨xs[0]'(by omega), List.getElem?_eq_getElem (by omega)⟩
  obtain ⟨c, hs, hr, hcell⟩ := hc 0 x hx
  injection e' with e'
  subst e'
  have hu := hcell 0 (.int .i64 x) (by rw [show c = [Value.int .i64 x] from hr]; rfl)
  have hb := World.block_lt_of_cell? _ _ hu
  have e9 : (ad.add (0 * (Kd.int .i64).sz + 0)).block = g := (add_block ..).trans e
  rw [e9] at hb
  unfold World.cell? at hu
  rw [e9] at hu
  rw [Array.getElem?_setIfInBounds, if_pos rfl, if_pos (by simpa using hb)] at hu
  simp at hu
def spec_DrawCanMake.f (k : Nat) (l0 : List Int) : Option (List Int × Int) := (spec_l1Cur_pieces.f k l0 0 0).bind fun a => (spec_l1Cur_total.f k l0 a.2.1 a.2.2 a.1).bind fun b => some (a.1, b.1)
set_option maxHeartbeats 2000000 in
theorem spec_DrawCanMake.calls (k : Nat) (A0 : Option Addr) (c0 : Nat) (l0 : List Int) (r1 : List Int) (r2 : Int) (w : World) (hr0 : Kd.C (Kd.int .u8) w A0 l0.length l0) (hc0 : l0.length ≤ c0) (h : spec_DrawCanMake.f k l0 = some (r1, r2)) :
    Calls Try.prog 83 #[.slice A0 l0.length c0] w fun e w' => ∃ v0_ : Value, e = .returned (.tuple #[v0_, .int .i64 r2]) ∧ Kd.V (Kd.int .i64) 3 w' w.heap.size (fun k_ => (w.heap.size ≤ k_)) v0_ r1 ∧ Below w.heap.size w w' := by
  unfold spec_DrawCanMake.f at h
  obtain ⟨⟨p1, p2, p3⟩, hA, h⟩ := Option.bind_eq_some_iff.1 h
  obtain ⟨⟨q1, q2, q3⟩, hT, h⟩ := Option.bind_eq_some_iff.1 h
  simp only [Option.some.injEq, Prod.mk.injEq] at h
  obtain ⟨rfl, rfl⟩ := h
  obtain ⟨g, hg_⟩ : ∃ g_, g_ = w.heap.size := ⟨_, rfl⟩
  obtain ⟨w1, hw_⟩ : ∃ w_, w_ = w.alloc (.cells #[.slice A0 l0.length c0, .int .i64 0, .int .u64 0] 60) := ⟨_, rfl⟩
  have hI : IsS60 w w1 g l0 0 0 := by subst hw_ hg_; exact ⟨A0, c0, blk_new _ _, Nat.le_refl _, hr0⟩
  have hB : Below w.heap.size w w1 := by subst hw_; exact below_alloc (Below.refl _ _) _
  have HGW_ := Aside0.mk (And.intro hg_ hw_)
  have HL := Aside0.mk hB.size
  have HG := Aside0.mk hI.lt
  have HI := Aside0.mk hI
  have HB := Aside0.mk hB
  have HA := Aside0.mk hA
  have HT := Aside0.mk hT
  clear hg_ hw_ hr0 hc0 hI hB hA hT
  go_enter Try.func83, Try.ntmps83
  go_upto_region 2 with (fail)
  (try simp only [Act.put, List.setIfInBounds_toArray, List.set_cons_zero, List.set_cons_succ])
  have hgw_ := HGW_.out
  rw [← hgw_.2, ← hgw_.1]
  clear hgw_
  go_wp2_with (first
    | (go_at_call 104; (with_reducible refine (spec_l1Cur_pieces.calls k g l0 0 0 p1 p2 p3 w _ HI.out HB.out HA.out).mono ?_); rintro e w2 ⟨v0, rfl, ho, hi2, hb2, hk2⟩; obtain ⟨A1, c1, rfl⟩ := Kd.V_slice ho; have HO := Aside0.mk ho; have HI2 := Aside0.mk hi2; have HB2 := Aside0.mk hb2; clear ho hi2 hb2 hk2)
    | (go_at_call 108; (with_reducible refine (spec_l1Cur_total.calls k g l0 p2 p3 A1 c1 p1 q1 q2 q3 w _ HI2.out HB2.out (Kd.V_reads' HO.out).2.2 (Kd.V_reads' HO.out).2.1 (F_far_int (Kd.V_F HO.out) (by have := HG.out; omega)) HT.out).mono ?_); rintro e w3 ⟨rfl, hi3, hb3, hk3⟩; have HO3 := Aside0.mk (Kd.V_mono (Kd.V_keep HO.out hk3 (fun k_ hk_ => by have := HG.out; omega)) (fun k_ hk_ => Nat.le_trans HL.out hk_)); have HB3 := Aside0.mk hb3; clear hi3 hb3 hk3))
  go_ret2
  exact ⟨_, rfl, Kd.V_lower HO3.out HL.out, HB3.out⟩


/-! ### spec_DrawFirstWay: function 40 -/
def spec_DrawFirstWay.f (k : Nat) (l0 : List Int) : Option (List Int × Int) := (spec_DrawCanMake.f k l0).bind fun bt426 => (some (bt426.1, bt426.2))
theorem spec_DrawFirstWay.calls (k : Nat) (A0 : Option Addr) (c0 : Nat) (l0 : List Int) (r1 : List Int) (r2 : Int) (w : World) (hr0 : Kd.C (Kd.int .u8) w A0 l0.length l0) (hc0 : l0.length ≤ c0) (h : spec_DrawFirstWay.f k l0 = some (r1, r2)) :
 Calls Try.prog 40 #[.slice A0 l0.length c0] w fun e w' => ∃ v0_ : Value, e = .returned (.tuple #[v0_, .int .i64 r2]) ∧ Kd.V (Kd.int .i64) 3 w' w.heap.size (fun k_ => (w.heap.size ≤ k_)) v0_ r1 ∧ Below w.heap.size w w' := by
 have HR0 := Aside0.mk hr0
 have HC0 := Aside0.mk hc0
 clear hr0 hc0
 have HB := Aside0.mk (Below.refl w.heap.size w)
 have H := h; unfold spec_DrawFirstWay.f at H
 clear h
 replace H := Option.bind_eq_some_iff.mp H
 obtain ⟨⟨t426, t427⟩, A20, H⟩ := H
 have A2 := Aside0.mk A20
 clear A20
 simp only [Option.some.injEq, Prod.mk.injEq] at H
 obtain ⟨rfl, rfl⟩ := H
 go_enter Try.func40, Try.ntmps40
 go_wp2_with (first | (refine Gl 5 #[.slice A0 l0.length c0] Try.func83 ?_; (with_reducible refine (spec_DrawCanMake.calls k _ _ l0 t426 t427 _ (Cm HR0.out) HC0.out A2.out).mono ?_); rintro e w3 ⟨v428, rfl, ho0, hb⟩; refine ⟨_, rfl, ?_⟩; have HO429 := Aside0.mk (Kd.V_lower (Kd.V_mono (ok' := fun k_ => (w.heap.size ≤ k_)) ho0 (fun k_ hk_ => (Nat.le_trans (below_size Ub) hk_))) (below_size Ub)); replace HB := Aside0.mk (below_step Ub hb); clear hb ho0))
 go_ret2
 exact ⟨_, Re, by (with_reducible repeat (first | apply Kd.V_alloc | apply Kd.V_drewN | apply Kd.V_drew)); exact HO429.out, Ub⟩

/-! ### impl_within: function 66 -/
def impl_within.f (a0 : Int) (a1 : Int) (a2 : Int) : Option (Bool) := if a1 ≤ a0 then (some (decide (a0 ≤ a2))) else (some false)
theorem impl_within.calls (a0 : Int) (a1 : Int) (a2 : Int) (r : Bool) (w : World) (h : impl_within.f a0 a1 a2 = some r) :
 Calls Try.prog 66 #[.int .i64 a0, .int .i64 a1, .int .i64 a2] w fun e w' => e = .returned (.bool r) ∧ Drawn0 w w' := by
 have H := h; unfold impl_within.f at H
 clear h
 replace H := Ic H; rcases H with ⟨c4, H⟩ | ⟨c4, H⟩
 · have c4b0 := decide_eq_true c4
   clear c4
   obtain rfl := Option.some.inj H
   go_enter Try.func66, Try.ntmps66
   go_wp2
   go_ret
   exact ⟨Rs, Dr⟩
 have c4b0 := decide_eq_false c4
 clear c4
 obtain rfl := Option.some.inj H
 go_enter Try.func66, Try.ntmps66
 go_wp2
 go_ret
 exact ⟨Rs, Dr⟩

/-! ### impl_isSum: function 84 -/
def impl_isSum.f (k : Nat) (l0 : List Int) (a1 : Int) : Option (Bool) := (impl_ArePieces.f k l0).bind fun t430 => (if t430 = true then ((impl_within.f a1 0 200000).bind fun t431 => (some t431)) else (some false))
theorem impl_isSum.calls (k : Nat) (A0 : Option Addr) (c0 : Nat) (l0 : List Int) (a1 : Int) (r : Bool) (w : World) (hr0 : Kd.C (Kd.int .i64) w A0 l0.length l0) (hc0 : l0.length ≤ c0) (h : impl_isSum.f k l0 a1 = some r) :
 Calls Try.prog 84 #[.slice A0 l0.length c0, .int .i64 a1] w fun e w' => e = .returned (.bool r) ∧ Below w.heap.size w w' := by
 have HR0 := Aside0.mk hr0
 have HC0 := Aside0.mk hc0
 clear hr0 hc0
 have HB := Aside0.mk (Below.refl w.heap.size w)
 have H := h; unfold impl_isSum.f at H
 clear h
 replace H := Option.bind_eq_some_iff.mp H
 obtain ⟨t430, A30, H⟩ := H
 have A3 := Aside0.mk A30
 clear A30
 replace H := Iw H; rcases H with ⟨rfl, H⟩ | ⟨rfl, H⟩
 · replace H := Option.bind_eq_some_iff.mp H
   obtain ⟨t431, A50, H⟩ := H
   have A5 := Aside0.mk A50
   clear A50
   obtain rfl := Option.some.inj H
   go_enter Try.func84, Try.ntmps84
   go_wp2_with (first | (refine Gl 6 #[.slice A0 l0.length c0] Try.func37 ?_; (with_reducible refine (impl_ArePieces.calls k _ _ l0 true _ (Cm HR0.out) HC0.out A3.out).mono ?_); rintro e w6 ⟨rfl, hb⟩; refine ⟨_, rfl, ?_⟩; replace HB := Aside0.mk (below_step Ub hb); clear hb) | (go_at_call 66; (with_reducible refine (impl_within.calls a1 0 200000 t431 _ A5.out).mono ?_); rintro e w' ⟨rfl, ⟨nd, rfl⟩⟩))
   go_ret
   exact ⟨Re, Ub⟩
 obtain rfl := Option.some.inj H
 go_enter Try.func84, Try.ntmps84
 go_wp2_with (first | (refine Gl 6 #[.slice A0 l0.length c0] Try.func37 ?_; (with_reducible refine (impl_ArePieces.calls k _ _ l0 false _ (Cm HR0.out) HC0.out A3.out).mono ?_); rintro e w7 ⟨rfl, hb⟩; refine ⟨_, rfl, ?_⟩; replace HB := Aside0.mk (below_step Ub hb); clear hb))
 go_ret
 exact ⟨Re, Ub⟩

/-! ### impl_FirstWay: function 41 -/
def impl_FirstWay.f (k : Nat) (l0 : List Int) (a1 : Int) : Option (List Int × Bool) := (impl_isSum.f k l0 a1).bind fun t432 => (if t432 = true then ((impl_firstWay.f k l0 a1).bind fun bt433 => (some (bt433.1, bt433.2))) else (some (([] : List Int), false)))
theorem impl_FirstWay.calls (k : Nat) (A0 : Option Addr) (c0 : Nat) (l0 : List Int) (a1 : Int) (r1 : List Int) (r2 : Bool) (w : World) (hr0 : Kd.C (Kd.int .i64) w A0 l0.length l0) (hc0 : l0.length ≤ c0) (h : impl_FirstWay.f k l0 a1 = some (r1, r2)) :
 Calls Try.prog 41 #[.slice A0 l0.length c0, .int .i64 a1] w fun e w' => ∃ v0_ : Value, e = .returned (.tuple #[v0_, .bool r2]) ∧ Kd.R (Kd.int .i64) 3 w' w.heap.size (fun _ => True) v0_ r1 ∧ Below w.heap.size w w' := by
 have HR0 := Aside0.mk hr0
 have HC0 := Aside0.mk hc0
 clear hr0 hc0
 have HB := Aside0.mk (Below.refl w.heap.size w)
 have H := h; unfold impl_FirstWay.f at H
 clear h
 replace H := Option.bind_eq_some_iff.mp H
 obtain ⟨t432, A30, H⟩ := H
 have A3 := Aside0.mk A30
 clear A30
 replace H := Iw H; rcases H with ⟨rfl, H⟩ | ⟨rfl, H⟩
 · replace H := Option.bind_eq_some_iff.mp H
   obtain ⟨⟨t433, t434⟩, A50, H⟩ := H
   have A5 := Aside0.mk A50
   clear A50
   simp only [Option.some.injEq, Prod.mk.injEq] at H
   obtain ⟨rfl, rfl⟩ := H
   go_enter Try.func41, Try.ntmps41
   go_wp2_with (first | (refine Gl 8 #[.slice A0 l0.length c0, .int .i64 a1] Try.func84 ?_; (with_reducible refine (impl_isSum.calls k _ _ l0 a1 true _ (Cm HR0.out) HC0.out A3.out).mono ?_); rintro e w6 ⟨rfl, hb⟩; refine ⟨_, rfl, ?_⟩; replace HB := Aside0.mk (below_step Ub hb); clear hb) | (refine Gl 12 #[.slice A0 l0.length c0, .int .i64 a1] Try.func79 ?_; (with_reducible refine (impl_firstWay.calls k _ _ l0 a1 t433 t434 _ (Cm (Kd.C_below HR0.out HB.out)) HC0.out A5.out).mono ?_); rintro e w7 ⟨v435, rfl, ho0, hb⟩; refine ⟨_, rfl, ?_⟩; have HO436 := Aside0.mk (Kd.R_lower ho0 (below_size Ub)); replace HB := Aside0.mk (below_step Ub hb); clear hb ho0))
   go_ret2
   exact ⟨_, Re, Rm HO436.out, Ub⟩
 simp only [Option.some.injEq, Prod.mk.injEq] at H
 obtain ⟨rfl, rfl⟩ := H
 go_enter Try.func41, Try.ntmps41
 go_wp2_with (first | (refine Gl 8 #[.slice A0 l0.length c0, .int .i64 a1] Try.func84 ?_; (with_reducible refine (impl_isSum.calls k _ _ l0 a1 false _ (Cm HR0.out) HC0.out A3.out).mono ?_); rintro e w8 ⟨rfl, hb⟩; refine ⟨_, rfl, ?_⟩; replace HB := Aside0.mk (below_step Ub hb); clear hb))
 go_ret2
 exact ⟨_, Re, Nl, Ub⟩

/-! ### spec_piAsked: function 85 -/
def spec_piAsked.f (k : Nat) (l0 : List Int) (a1 : Int) : Option (Bool) := (spec_piGood.f k l0).bind fun t437 => (if t437 = true then ((spec_l1In.f a1 0 200000).bind fun t438 => (some t438)) else (some false))
theorem spec_piAsked.calls (k : Nat) (A0 : Option Addr) (c0 : Nat) (l0 : List Int) (a1 : Int) (r : Bool) (w : World) (hr0 : Kd.C (Kd.int .i64) w A0 l0.length l0) (hc0 : l0.length ≤ c0) (h : spec_piAsked.f k l0 a1 = some r) :
 Calls Try.prog 85 #[.slice A0 l0.length c0, .int .i64 a1] w fun e w' => e = .returned (.bool r) ∧ Drawn0 w w' := by
 have HR0 := Aside0.mk hr0
 have HC0 := Aside0.mk hc0
 clear hr0 hc0
 have H := h; unfold spec_piAsked.f at H
 clear h
 replace H := Option.bind_eq_some_iff.mp H
 obtain ⟨t437, A30, H⟩ := H
 have A3 := Aside0.mk A30
 clear A30
 replace H := Iw H; rcases H with ⟨rfl, H⟩ | ⟨rfl, H⟩
 · replace H := Option.bind_eq_some_iff.mp H
   obtain ⟨t438, A50, H⟩ := H
   have A5 := Aside0.mk A50
   clear A50
   obtain rfl := Option.some.inj H
   go_enter Try.func85, Try.ntmps85
   go_wp2_with (first | (refine Gl 6 #[.slice A0 l0.length c0] Try.func71 ?_; (with_reducible refine (spec_piGood.calls k _ _ l0 true _ (Cm HR0.out) HC0.out A3.out).mono ?_); rintro e w' ⟨rfl, ⟨nd, rfl⟩⟩; refine ⟨_, rfl, ?_⟩) | (go_at_call 97; (with_reducible refine (spec_l1In.calls a1 0 200000 t438 _ A5.out).mono ?_); rintro e w' ⟨rfl, ⟨nd, rfl⟩⟩))
   go_ret
   exact ⟨Rs, Dr⟩
 obtain rfl := Option.some.inj H
 go_enter Try.func85, Try.ntmps85
 go_wp2_with (first | (refine Gl 6 #[.slice A0 l0.length c0] Try.func71 ?_; (with_reducible refine (spec_piGood.calls k _ _ l0 false _ (Cm HR0.out) HC0.out A3.out).mono ?_); rintro e w' ⟨rfl, ⟨nd, rfl⟩⟩; refine ⟨_, rfl, ?_⟩))
 go_ret
 exact ⟨Rs, Dr⟩

/-! ### spec_FirstWay: function 42 -/
def spec_FirstWay.f (k : Nat) (l0 : List Int) (a1 : Int) : Option (List Int × Bool) := (spec_piAsked.f k l0 a1).bind fun t439 => (if t439 = true then ((spec_piMake.f k l0 a1).bind fun t440 => (if t440 = 0 then (some (([] : List Int), false)) else ((spec_piFirst.f k l0 a1).bind fun t441 => (some (t441, true))))) else (some (([] : List Int), false)))
theorem spec_FirstWay.calls (k : Nat) (A0 : Option Addr) (c0 : Nat) (l0 : List Int) (a1 : Int) (r1 : List Int) (r2 : Bool) (w : World) (hr0 : Kd.C (Kd.int .i64) w A0 l0.length l0) (hc0 : l0.length ≤ c0) (h : spec_FirstWay.f k l0 a1 = some (r1, r2)) :
 Calls Try.prog 42 #[.slice A0 l0.length c0, .int .i64 a1] w fun e w' => ∃ v0_ : Value, e = .returned (.tuple #[v0_, .bool r2]) ∧ Kd.R (Kd.int .i64) 3 w' w.heap.size (fun _ => True) v0_ r1 ∧ Below w.heap.size w w' := by
 have HR0 := Aside0.mk hr0
 have HC0 := Aside0.mk hc0
 clear hr0 hc0
 have HB := Aside0.mk (Below.refl w.heap.size w)
 have H := h; unfold spec_FirstWay.f at H
 clear h
 replace H := Option.bind_eq_some_iff.mp H
 obtain ⟨t439, A30, H⟩ := H
 have A3 := Aside0.mk A30
 clear A30
 replace H := Iw H; rcases H with ⟨rfl, H⟩ | ⟨rfl, H⟩
 · replace H := Option.bind_eq_some_iff.mp H
   obtain ⟨t440, A50, H⟩ := H
   have A5 := Aside0.mk A50
   clear A50
   replace H := Ic H; rcases H with ⟨c6, H⟩ | ⟨c6, H⟩
   · have c6b0 : (t440 == 0) = true := beq_iff_eq.mpr c6
     have c6b1 := bne_eq_false_iff_eq.mpr c6
     clear c6
     simp only [Option.some.injEq, Prod.mk.injEq] at H
     obtain ⟨rfl, rfl⟩ := H
     go_enter Try.func42, Try.ntmps42
     go_wp2_with (first | (refine Gl 8 #[.slice A0 l0.length c0, .int .i64 a1] Try.func85 ?_; (with_reducible refine (spec_piAsked.calls k _ _ l0 a1 true _ (Cm HR0.out) HC0.out A3.out).mono ?_); rintro e w' ⟨rfl, ⟨nd, rfl⟩⟩; refine ⟨_, rfl, ?_⟩) | (go_at_call 80; (with_reducible refine (spec_piMake.calls k _ _ l0 a1 t440 _ (Cm HR0.out) HC0.out A5.out).mono ?_); rintro e w7 ⟨rfl, hb⟩; replace HB := Aside0.mk (below_step Ub hb); clear hb))
     go_ret2
     exact ⟨_, Re, Nl, Ub⟩
   have c6b0 : (t440 == 0) = false := beq_eq_false_iff_ne.mpr c6
   have c6b1 := bne_iff_ne.mpr c6
   replace H := Option.bind_eq_some_iff.mp H
   obtain ⟨t441, A80, H⟩ := H
   have A8 := Aside0.mk A80
   clear A80
   simp only [Option.some.injEq, Prod.mk.injEq] at H
   obtain ⟨rfl, rfl⟩ := H
   go_enter Try.func42, Try.ntmps42
   go_wp2_with (first | (refine Gl 8 #[.slice A0 l0.length c0, .int .i64 a1] Try.func85 ?_; (with_reducible refine (spec_piAsked.calls k _ _ l0 a1 true _ (Cm HR0.out) HC0.out A3.out).mono ?_); rintro e w' ⟨rfl, ⟨nd, rfl⟩⟩; refine ⟨_, rfl, ?_⟩) | (go_at_call 80; (with_reducible refine (spec_piMake.calls k _ _ l0 a1 t440 _ (Cm HR0.out) HC0.out A5.out).mono ?_); rintro e w9 ⟨rfl, hb⟩; replace HB := Aside0.mk (below_step Ub hb); clear hb) | (refine Gl 18 #[.slice A0 l0.length c0, .int .i64 a1] Try.func81 ?_; (with_reducible refine (spec_piFirst.calls k _ _ l0 a1 t441 _ (Cm (Kd.C_below HR0.out HB.out)) HC0.out A8.out).mono ?_); rintro e w10 ⟨v442, rfl, ho0, hb⟩; refine ⟨_, rfl, ?_⟩; have HO443 := Aside0.mk (Kd.R_lower ho0 (below_size Ub)); replace HB := Aside0.mk (below_step Ub hb); clear hb ho0))
   go_ret2
   exact ⟨_, Re, Rm HO443.out, Ub⟩
 simp only [Option.some.injEq, Prod.mk.injEq] at H
 obtain ⟨rfl, rfl⟩ := H
 go_enter Try.func42, Try.ntmps42
 go_wp2_with (first | (refine Gl 8 #[.slice A0 l0.length c0, .int .i64 a1] Try.func85 ?_; (with_reducible refine (spec_piAsked.calls k _ _ l0 a1 false _ (Cm HR0.out) HC0.out A3.out).mono ?_); rintro e w' ⟨rfl, ⟨nd, rfl⟩⟩; refine ⟨_, rfl, ?_⟩))
 go_ret2
 exact ⟨_, Re, Nl, Ub⟩

/-! ### impl_waysOf: function 86 -/
def impl_waysOf.f (k : Nat) (l0 : List Int) (a1 : Int) : Option (Int) := (impl_total.f k l0).bind fun t444 => (if a1 > t444 then (some 0) else ((impl_ways.f k l0).bind fun t445 => (if 0 ≤ a1 then (if a1 < (t445.length : Int) then (some (rd t445 a1)) else (none)) else (none))))
theorem impl_waysOf.calls (k : Nat) (A0 : Option Addr) (c0 : Nat) (l0 : List Int) (a1 : Int) (r : Int) (w : World) (hr0 : Kd.C (Kd.int .i64) w A0 l0.length l0) (hc0 : l0.length ≤ c0) (h : impl_waysOf.f k l0 a1 = some r) :
 Calls Try.prog 86 #[.slice A0 l0.length c0, .int .i64 a1] w fun e w' => e = .returned (.int .i64 r) ∧ Below w.heap.size w w' := by
 have HR0 := Aside0.mk hr0
 have HC0 := Aside0.mk hc0
 clear hr0 hc0
 have HB := Aside0.mk (Below.refl w.heap.size w)
 have H := h; unfold impl_waysOf.f at H
 clear h
 replace H := Option.bind_eq_some_iff.mp H
 obtain ⟨t444, A30, H⟩ := H
 have A3 := Aside0.mk A30
 clear A30
 replace H := Ic H; rcases H with ⟨c4, H⟩ | ⟨c4, H⟩
 · have c4b0 : decide (t444 < a1) = true := decide_eq_true c4
   clear c4
   obtain rfl := Option.some.inj H
   go_enter Try.func86, Try.ntmps86
   go_wp2_with (first | (refine Gl 7 #[.slice A0 l0.length c0] Try.func75 ?_; (with_reducible refine (impl_total.calls k _ _ l0 t444 _ (Cm HR0.out) HC0.out A3.out).mono ?_); rintro e w' ⟨rfl, ⟨nd, rfl⟩⟩; refine ⟨_, rfl, ?_⟩))
   go_ret
   exact ⟨Re, Ub⟩
 have c4b0 : decide (t444 < a1) = false := decide_eq_false c4
 clear c4
 replace H := Option.bind_eq_some_iff.mp H
 obtain ⟨t445, A50, H⟩ := H
 have A5 := Aside0.mk A50
 clear A50
 replace H := Ic H; rcases H with ⟨c6, H⟩ | ⟨c6, H⟩
 · have c6b0 := decide_eq_true c6
   clear c6
   replace H := Ip H; obtain ⟨c7, H⟩ := H
   have c7b0 := decide_eq_true c7
   clear c7
   obtain rfl := Option.some.inj H
   go_enter Try.func86, Try.ntmps86
   go_wp2_with (first | (refine Gl 7 #[.slice A0 l0.length c0] Try.func75 ?_; (with_reducible refine (impl_total.calls k _ _ l0 t444 _ (Cm HR0.out) HC0.out A3.out).mono ?_); rintro e w' ⟨rfl, ⟨nd, rfl⟩⟩; refine ⟨_, rfl, ?_⟩) | (refine Gl 10 #[.slice A0 l0.length c0] Try.func105 ?_; (with_reducible refine (impl_ways.calls k _ _ l0 t445 _ (Cm HR0.out) HC0.out A5.out).mono ?_); rintro e w8 ⟨v446, rfl, ho0, hb⟩; refine ⟨_, rfl, ?_⟩; have HO447 := Aside0.mk (Kd.R_lower ho0 (below_size Ub)); replace HB := Aside0.mk (below_step Ub hb); clear hb ho0; obtain ⟨Ao9, co9, eo9⟩ := Kd.R_slice HO447.out; subst eo9; have p448 : 0 ≤ (a1 : Int) := Oa; have q448 : a1 < (t445.length : Int) := Oa; obtain ⟨ad448, e448, hx448_0⟩ := Kd.at_int (Kd.R_reads' HO447.out).2.2 a1 p448 q448; cases e448; replace p448 := eq_true p448; replace q448 := eq_true q448))
   go_ret
   exact ⟨Re, Ub⟩
 exact absurd H (by simp)

/-! ### impl_WaysOf: function 45 -/
def impl_WaysOf.f (k : Nat) (l0 : List Int) (a1 : Int) : Option (Int × Bool) := (impl_isSum.f k l0 a1).bind fun t449 => (if t449 = true then ((impl_waysOf.f k l0 a1).bind fun t450 => (some (t450, true))) else (some (0, false)))
theorem impl_WaysOf.calls (k : Nat) (A0 : Option Addr) (c0 : Nat) (l0 : List Int) (a1 : Int) (r1 : Int) (r2 : Bool) (w : World) (hr0 : Kd.C (Kd.int .i64) w A0 l0.length l0) (hc0 : l0.length ≤ c0) (h : impl_WaysOf.f k l0 a1 = some (r1, r2)) :
 Calls Try.prog 45 #[.slice A0 l0.length c0, .int .i64 a1] w fun e w' => e = .returned (.tuple #[.int .i64 r1, .bool r2]) ∧ Below w.heap.size w w' := by
 have HR0 := Aside0.mk hr0
 have HC0 := Aside0.mk hc0
 clear hr0 hc0
 have HB := Aside0.mk (Below.refl w.heap.size w)
 have H := h; unfold impl_WaysOf.f at H
 clear h
 replace H := Option.bind_eq_some_iff.mp H
 obtain ⟨t449, A30, H⟩ := H
 have A3 := Aside0.mk A30
 clear A30
 replace H := Iw H; rcases H with ⟨rfl, H⟩ | ⟨rfl, H⟩
 · replace H := Option.bind_eq_some_iff.mp H
   obtain ⟨t450, A50, H⟩ := H
   have A5 := Aside0.mk A50
   clear A50
   simp only [Option.some.injEq, Prod.mk.injEq] at H
   obtain ⟨rfl, rfl⟩ := H
   go_enter Try.func45, Try.ntmps45
   go_wp2_with (first | (refine Gl 8 #[.slice A0 l0.length c0, .int .i64 a1] Try.func84 ?_; (with_reducible refine (impl_isSum.calls k _ _ l0 a1 true _ (Cm HR0.out) HC0.out A3.out).mono ?_); rintro e w6 ⟨rfl, hb⟩; refine ⟨_, rfl, ?_⟩; replace HB := Aside0.mk (below_step Ub hb); clear hb) | (refine Gl 12 #[.slice A0 l0.length c0, .int .i64 a1] Try.func86 ?_; (with_reducible refine (impl_waysOf.calls k _ _ l0 a1 t450 _ (Cm (Kd.C_below HR0.out HB.out)) HC0.out A5.out).mono ?_); rintro e w7 ⟨rfl, hb⟩; refine ⟨_, rfl, ?_⟩; replace HB := Aside0.mk (below_step Ub hb); clear hb))
   go_ret2
   exact ⟨Re, Ub⟩
 simp only [Option.some.injEq, Prod.mk.injEq] at H
 obtain ⟨rfl, rfl⟩ := H
 go_enter Try.func45, Try.ntmps45
 go_wp2_with (first | (refine Gl 8 #[.slice A0 l0.length c0, .int .i64 a1] Try.func84 ?_; (with_reducible refine (impl_isSum.calls k _ _ l0 a1 false _ (Cm HR0.out) HC0.out A3.out).mono ?_); rintro e w8 ⟨rfl, hb⟩; refine ⟨_, rfl, ?_⟩; replace HB := Aside0.mk (below_step Ub hb); clear hb))
 go_ret2
 exact ⟨Re, Ub⟩

/-! ### impl_CanMake: function 43 -/
def impl_CanMake.f (k : Nat) (l0 : List Int) (a1 : Int) : Option (Bool × Bool) := (impl_WaysOf.f k l0 a1).bind fun bt451 => (some (decide (bt451.1 > 0), bt451.2))
theorem impl_CanMake.calls (k : Nat) (A0 : Option Addr) (c0 : Nat) (l0 : List Int) (a1 : Int) (r1 : Bool) (r2 : Bool) (w : World) (hr0 : Kd.C (Kd.int .i64) w A0 l0.length l0) (hc0 : l0.length ≤ c0) (h : impl_CanMake.f k l0 a1 = some (r1, r2)) :
 Calls Try.prog 43 #[.slice A0 l0.length c0, .int .i64 a1] w fun e w' => e = .returned (.tuple #[.bool r1, .bool r2]) ∧ Below w.heap.size w w' := by
 have HR0 := Aside0.mk hr0
 have HC0 := Aside0.mk hc0
 clear hr0 hc0
 have HB := Aside0.mk (Below.refl w.heap.size w)
 have H := h; unfold impl_CanMake.f at H
 clear h
 replace H := Option.bind_eq_some_iff.mp H
 obtain ⟨⟨t451, t452⟩, A30, H⟩ := H
 have A3 := Aside0.mk A30
 clear A30
 simp only [Option.some.injEq, Prod.mk.injEq] at H
 obtain ⟨rfl, rfl⟩ := H
 go_enter Try.func43, Try.ntmps43
 go_wp2_with (first | (refine Gl 11 #[.slice A0 l0.length c0, .int .i64 a1] Try.func45 ?_; (with_reducible refine (impl_WaysOf.calls k _ _ l0 a1 t451 t452 _ (Cm HR0.out) HC0.out A3.out).mono ?_); rintro e w4 ⟨rfl, hb⟩; refine ⟨_, rfl, ?_⟩; replace HB := Aside0.mk (below_step Ub hb); clear hb))
 go_ret2
 exact ⟨Re, Ub⟩

/-! ### spec_CanMake: function 44 -/
def spec_CanMake.f (k : Nat) (l0 : List Int) (a1 : Int) : Option (Bool × Bool) := (spec_piAsked.f k l0 a1).bind fun t453 => (if t453 = true then ((spec_piMake.f k l0 a1).bind fun t454 => (some (decide (t454 > 0), true))) else (some (false, false)))
theorem spec_CanMake.calls (k : Nat) (A0 : Option Addr) (c0 : Nat) (l0 : List Int) (a1 : Int) (r1 : Bool) (r2 : Bool) (w : World) (hr0 : Kd.C (Kd.int .i64) w A0 l0.length l0) (hc0 : l0.length ≤ c0) (h : spec_CanMake.f k l0 a1 = some (r1, r2)) :
 Calls Try.prog 44 #[.slice A0 l0.length c0, .int .i64 a1] w fun e w' => e = .returned (.tuple #[.bool r1, .bool r2]) ∧ Below w.heap.size w w' := by
 have HR0 := Aside0.mk hr0
 have HC0 := Aside0.mk hc0
 clear hr0 hc0
 have HB := Aside0.mk (Below.refl w.heap.size w)
 have H := h; unfold spec_CanMake.f at H
 clear h
 replace H := Option.bind_eq_some_iff.mp H
 obtain ⟨t453, A30, H⟩ := H
 have A3 := Aside0.mk A30
 clear A30
 replace H := Iw H; rcases H with ⟨rfl, H⟩ | ⟨rfl, H⟩
 · replace H := Option.bind_eq_some_iff.mp H
   obtain ⟨t454, A50, H⟩ := H
   have A5 := Aside0.mk A50
   clear A50
   simp only [Option.some.injEq, Prod.mk.injEq] at H
   obtain ⟨rfl, rfl⟩ := H
   go_enter Try.func44, Try.ntmps44
   go_wp2_with (first | (refine Gl 8 #[.slice A0 l0.length c0, .int .i64 a1] Try.func85 ?_; (with_reducible refine (spec_piAsked.calls k _ _ l0 a1 true _ (Cm HR0.out) HC0.out A3.out).mono ?_); rintro e w' ⟨rfl, ⟨nd, rfl⟩⟩; refine ⟨_, rfl, ?_⟩) | (refine Gl 12 #[.slice A0 l0.length c0, .int .i64 a1] Try.func80 ?_; (with_reducible refine (spec_piMake.calls k _ _ l0 a1 t454 _ (Cm HR0.out) HC0.out A5.out).mono ?_); rintro e w6 ⟨rfl, hb⟩; refine ⟨_, rfl, ?_⟩; replace HB := Aside0.mk (below_step Ub hb); clear hb))
   go_ret2
   exact ⟨Re, Ub⟩
 simp only [Option.some.injEq, Prod.mk.injEq] at H
 obtain ⟨rfl, rfl⟩ := H
 go_enter Try.func44, Try.ntmps44
 go_wp2_with (first | (refine Gl 8 #[.slice A0 l0.length c0, .int .i64 a1] Try.func85 ?_; (with_reducible refine (spec_piAsked.calls k _ _ l0 a1 false _ (Cm HR0.out) HC0.out A3.out).mono ?_); rintro e w' ⟨rfl, ⟨nd, rfl⟩⟩; refine ⟨_, rfl, ?_⟩))
 go_ret2
 exact ⟨Re, Ub⟩

/-! ### spec_WaysOf: function 46 -/
def spec_WaysOf.f (k : Nat) (l0 : List Int) (a1 : Int) : Option (Int × Bool) := (spec_piAsked.f k l0 a1).bind fun t455 => (if t455 = true then ((spec_piMake.f k l0 a1).bind fun t456 => (some (t456, true))) else (some (0, false)))
theorem spec_WaysOf.calls (k : Nat) (A0 : Option Addr) (c0 : Nat) (l0 : List Int) (a1 : Int) (r1 : Int) (r2 : Bool) (w : World) (hr0 : Kd.C (Kd.int .i64) w A0 l0.length l0) (hc0 : l0.length ≤ c0) (h : spec_WaysOf.f k l0 a1 = some (r1, r2)) :
 Calls Try.prog 46 #[.slice A0 l0.length c0, .int .i64 a1] w fun e w' => e = .returned (.tuple #[.int .i64 r1, .bool r2]) ∧ Below w.heap.size w w' := by
 have HR0 := Aside0.mk hr0
 have HC0 := Aside0.mk hc0
 clear hr0 hc0
 have HB := Aside0.mk (Below.refl w.heap.size w)
 have H := h; unfold spec_WaysOf.f at H
 clear h
 replace H := Option.bind_eq_some_iff.mp H
 obtain ⟨t455, A30, H⟩ := H
 have A3 := Aside0.mk A30
 clear A30
 replace H := Iw H; rcases H with ⟨rfl, H⟩ | ⟨rfl, H⟩
 · replace H := Option.bind_eq_some_iff.mp H
   obtain ⟨t456, A50, H⟩ := H
   have A5 := Aside0.mk A50
   clear A50
   simp only [Option.some.injEq, Prod.mk.injEq] at H
   obtain ⟨rfl, rfl⟩ := H
   go_enter Try.func46, Try.ntmps46
   go_wp2_with (first | (refine Gl 8 #[.slice A0 l0.length c0, .int .i64 a1] Try.func85 ?_; (with_reducible refine (spec_piAsked.calls k _ _ l0 a1 true _ (Cm HR0.out) HC0.out A3.out).mono ?_); rintro e w' ⟨rfl, ⟨nd, rfl⟩⟩; refine ⟨_, rfl, ?_⟩) | (refine Gl 12 #[.slice A0 l0.length c0, .int .i64 a1] Try.func80 ?_; (with_reducible refine (spec_piMake.calls k _ _ l0 a1 t456 _ (Cm HR0.out) HC0.out A5.out).mono ?_); rintro e w6 ⟨rfl, hb⟩; refine ⟨_, rfl, ?_⟩; replace HB := Aside0.mk (below_step Ub hb); clear hb))
   go_ret2
   exact ⟨Re, Ub⟩
 simp only [Option.some.injEq, Prod.mk.injEq] at H
 obtain ⟨rfl, rfl⟩ := H
 go_enter Try.func46, Try.ntmps46
 go_wp2_with (first | (refine Gl 8 #[.slice A0 l0.length c0, .int .i64 a1] Try.func85 ?_; (with_reducible refine (spec_piAsked.calls k _ _ l0 a1 false _ (Cm HR0.out) HC0.out A3.out).mono ?_); rintro e w' ⟨rfl, ⟨nd, rfl⟩⟩; refine ⟨_, rfl, ?_⟩))
 go_ret2
 exact ⟨Re, Ub⟩

end Go.Proofs.Ytkbllhlmcfjcdaa.PFnSumsMade
