-- MADE FOR THIS CLAIM by wip/xp/xprint.py (with the kit's print; some functions' contracts proved by hand)
import Derived.Test.YtjjajbgijncfoaaPFnChangeGivenx0
import Derived.Test.YtjjajbgijncfoaaPFnChangeGivenx2
import Derived.Test.YtjjajbgijncfoaaPFnChangeGivenx3
import Derived.Test.YtjjajbgijncfoaaPFnChangeGivenx4
import Derived.Test.YtjjajbgijncfoaaPFnChangeGivenx5
import Derived.Test.YtjjajbgijncfoaaPFnChangeGivenx7
import Derived.Test.YtjjajbgijncfoaaPFnChangeGivenx11
set_option maxHeartbeats 8000000
set_option maxRecDepth 100000
namespace Go.Proofs.Ytjjajbgijncfoaa.PFnChangeGiven
open Go.RowKit Go.Proofs.YtjjajbgijncfoaaW.PrintWords Go.Proofs.YtjjajbgijncfoaaW.PrintLast Go.Proofs.YtjjajbgijncfoaaW.PrintMore Go.Proofs.Ytjjajbgijncfoaa.Xmv
attribute [local go_sem] max2_int min2_int max_two min_two max_three min_three max_four min_four   -- for this text's walks alone
set_option linter.unusedVariables false
set_option linter.unusedSimpArgs false

/-! ### impl_MeanCoins: function 32 -/
def impl_MeanCoins.j0 : Nat → List Int → Int → Bool → Option (Int × Int × Bool)
 | 0, _, _, _ => none
 | k + 1, x0, x1, x16 => if x16 = true then (some (0, 0, false)) else ((impl_fewStamps.f k x0 x1).bind fun t475 => ((slices_Max_int_int.f t475).bind fun t478 => (if t478 > x1 then (some (0, 0, false)) else ((impl_total.f k t475).bind fun t479 => ((impl_gcd.f k t479 x1).bind fun t480 => ((impl_total.f k t475).bind fun t481 => (if t480 = 0 then (none) else (some (wrap64 (Int.tdiv t481 t480), wrap64 (Int.tdiv x1 t480), true)))))))))
def impl_MeanCoins.f (k : Nat) (l0 : List Int) (a1 : Int) : Option (Int × Int × Bool) := (impl_AreCoins.f k l0).bind fun t473 => (if t473 = true then ((impl_within.f a1 1 2000).bind fun t474 => (impl_MeanCoins.j0 k l0 a1 (!t474))) else (impl_MeanCoins.j0 k l0 a1 true))
theorem impl_MeanCoins.calls (k : Nat) (A0 : Option Addr) (c0 : Nat) (l0 : List Int) (a1 : Int) (r1 : Int) (r2 : Int) (r3 : Bool) (w : World) (hr0 : Kd.C (Kd.int .i64) w A0 l0.length l0) (hc0 : l0.length ≤ c0) (h : impl_MeanCoins.f k l0 a1 = some (r1, r2, r3)) :
 Calls Try.prog 32 #[.slice A0 l0.length c0, .int .i64 a1] w fun e w' => e = .returned (.tuple #[.int .i64 r1, .int .i64 r2, .bool r3]) ∧ Below w.heap.size w w' := by
 have HR0 := Aside0.mk hr0
 have HC0 := Aside0.mk hc0
 clear hr0 hc0
 have HB := Aside0.mk (Below.refl w.heap.size w)
 have H := h; unfold impl_MeanCoins.f at H
 clear h
 have HC3 := Aside0.mk H
 clear H
 go_enter Try.func32, Try.ntmps32
 go_upto_region 1 with (fail)
 repeat (go_quiet (fail); go_upto_region 1 with (fail))
 go_cut [16] (fun v16 wc => ∃ (kq : Nat) (x16_2 : Bool), v16 = .bool x16_2 ∧ Aside0 (impl_MeanCoins.j0 kq l0 a1 x16_2 = some (r1, r2, r3)) ∧ Aside0 (kq ≤ k) ∧ Aside0 (Below w.heap.size w wc))
 case first =>
  have H := HC3.out
  clear HC3
  replace H := Option.bind_eq_some_iff.mp H
  obtain ⟨t473, A40, H⟩ := H
  have A4 := Aside0.mk A40
  clear A40
  replace H := Iw H; rcases H with ⟨rfl, H⟩ | ⟨rfl, H⟩
  · replace H := Option.bind_eq_some_iff.mp H
    obtain ⟨t474, A60, H⟩ := H
    have A6 := Aside0.mk A60
    clear A60
    have H' := Aside0.mk H
    clear H
    go_wp2_with (first | (go_at_call 20; (with_reducible refine (impl_AreCoins.calls k _ _ l0 true _ (Cm (Kd.C_below HR0.out HB.out)) HC0.out A4.out).mono ?_); rintro e w7 ⟨rfl, hb⟩; replace HB := Aside0.mk (below_step Ub hb); clear hb) | (go_at_call 105; (with_reducible refine (impl_within.calls a1 1 2000 t474 _ A6.out).mono ?_); rintro e w' ⟨rfl, ⟨nd, rfl⟩⟩; (try first | exact ⟨rfl, _, World.drewN_drewN _ _ _⟩ | exact ⟨rfl, _, Eq.trans (World.drewN_drewN _ _ _) (congrArg (World.drewN _) (Nat.add_assoc _ _ _))⟩)))
    repeat (go_quiet (first | (go_at_call 20; (with_reducible refine (impl_AreCoins.calls k _ _ l0 true _ (Cm (Kd.C_below HR0.out HB.out)) HC0.out A4.out).mono ?_); rintro e w7 ⟨rfl, hb⟩; replace HB := Aside0.mk (below_step Ub hb); clear hb) | (go_at_call 105; (with_reducible refine (impl_within.calls a1 1 2000 t474 _ A6.out).mono ?_); rintro e w' ⟨rfl, ⟨nd, rfl⟩⟩; (try first | exact ⟨rfl, _, World.drewN_drewN _ _ _⟩ | exact ⟨rfl, _, Eq.trans (World.drewN_drewN _ _ _) (congrArg (World.drewN _) (Nat.add_assoc _ _ _))⟩))); try go_wp2_with (first | (go_at_call 20; (with_reducible refine (impl_AreCoins.calls k _ _ l0 true _ (Cm (Kd.C_below HR0.out HB.out)) HC0.out A4.out).mono ?_); rintro e w7 ⟨rfl, hb⟩; replace HB := Aside0.mk (below_step Ub hb); clear hb) | (go_at_call 105; (with_reducible refine (impl_within.calls a1 1 2000 t474 _ A6.out).mono ?_); rintro e w' ⟨rfl, ⟨nd, rfl⟩⟩; (try first | exact ⟨rfl, _, World.drewN_drewN _ _ _⟩ | exact ⟨rfl, _, Eq.trans (World.drewN_drewN _ _ _) (congrArg (World.drewN _) (Nat.add_assoc _ _ _))⟩))))
    go_meet
    case rel => exact ⟨_, (!t474), Rs, H', ⟨by first | omega | exact Nat.le_refl _⟩, ⟨Ub⟩⟩
  have H' := Aside0.mk H
  clear H
  go_wp2_with (first | (go_at_call 20; (with_reducible refine (impl_AreCoins.calls k _ _ l0 false _ (Cm (Kd.C_below HR0.out HB.out)) HC0.out A4.out).mono ?_); rintro e w8 ⟨rfl, hb⟩; replace HB := Aside0.mk (below_step Ub hb); clear hb))
  repeat (go_quiet (first | (go_at_call 20; (with_reducible refine (impl_AreCoins.calls k _ _ l0 false _ (Cm (Kd.C_below HR0.out HB.out)) HC0.out A4.out).mono ?_); rintro e w8 ⟨rfl, hb⟩; replace HB := Aside0.mk (below_step Ub hb); clear hb)); try go_wp2_with (first | (go_at_call 20; (with_reducible refine (impl_AreCoins.calls k _ _ l0 false _ (Cm (Kd.C_below HR0.out HB.out)) HC0.out A4.out).mono ?_); rintro e w8 ⟨rfl, hb⟩; replace HB := Aside0.mk (below_step Ub hb); clear hb)))
  go_meet
  case rel => exact ⟨_, (true), Rs, H', ⟨by first | omega | exact Nat.le_refl _⟩, ⟨Ub⟩⟩
 case rest =>
  clear HC3
  obtain ⟨kq, x16_2, rfl, HA, HJ2, HB⟩ := hcut
  cases kq with
  | zero => exact absurd HA.out (by simp [impl_MeanCoins.j0])
  | succ kj2 =>
   have H := HA.out
   clear HA
   simp only [impl_MeanCoins.j0] at H
   by_cases c9 : x16_2 = true
   · subst c9
     have H1 : (some (0, 0, false)) = some (r1, r2, r3) := by rw [if_pos rfl] at H; exact H
     clear H
     have H := H1
     clear H1
     simp only [Option.some.injEq, Prod.mk.injEq] at H
     obtain ⟨rfl, rfl, rfl⟩ := H
     go_wp2
     repeat (go_quiet (fail); try go_wp2)
     go_ret3
     exact ⟨Re, Ub⟩
   replace c9 := Bool.eq_false_iff.mpr c9
   subst c9
   have H1 : ((impl_fewStamps.f kj2 l0 a1).bind fun t475 => ((slices_Max_int_int.f t475).bind fun t478 => (if t478 > a1 then (some (0, 0, false)) else ((impl_total.f kj2 t475).bind fun t479 => ((impl_gcd.f kj2 t479 a1).bind fun t480 => ((impl_total.f kj2 t475).bind fun t481 => (if t480 = 0 then (none) else (some (wrap64 (Int.tdiv t481 t480), wrap64 (Int.tdiv a1 t480), true))))))))) = some (r1, r2, r3) := by rw [if_neg (show ¬ (false = true) by decide)] at H; exact H
   clear H
   have H := H1
   clear H1
   replace H := Option.bind_eq_some_iff.mp H
   obtain ⟨t475, A100, H⟩ := H
   have A10 := Aside0.mk A100
   clear A100
   replace H := Option.bind_eq_some_iff.mp H
   obtain ⟨t478, A110, H⟩ := H
   have A11 := Aside0.mk A110
   clear A110
   replace H := Ic H; rcases H with ⟨c12, H⟩ | ⟨c12, H⟩
   · have c12b0 : decide (a1 < t478) = true := decide_eq_true c12
     clear c12
     simp only [Option.some.injEq, Prod.mk.injEq] at H
     obtain ⟨rfl, rfl, rfl⟩ := H
     go_wp2_with (first | (go_at_call 95; (with_reducible refine (impl_fewStamps.calls kj2 _ _ l0 a1 t475 _ (Cm (Kd.C_below HR0.out HB.out)) HC0.out A10.out).mono ?_); rintro e w13 ⟨v476, rfl, ho0, hb⟩; have HO477 := Aside0.mk (Kd.R_lower ho0 (below_size Ub)); replace HB := Aside0.mk (below_step Ub hb); clear hb ho0; obtain ⟨Ao14, co14, eo14⟩ := Kd.R_slice HO477.out; subst eo14) | (go_at_call 116; (with_reducible refine (slices_Max_int_int.calls _ _ t475 t478 _ (Cm (Kd.R_reads' HO477.out).2.2) ((Kd.R_reads' HO477.out).2.1) A11.out).mono ?_); rintro e w15 ⟨rfl, hb⟩; replace HO477 := Aside0.mk (Kd.R_below (Rm HO477.out) hb); replace HB := Aside0.mk (below_step Ub hb); clear hb))
     repeat (go_quiet (first | (go_at_call 95; (with_reducible refine (impl_fewStamps.calls kj2 _ _ l0 a1 t475 _ (Cm (Kd.C_below HR0.out HB.out)) HC0.out A10.out).mono ?_); rintro e w13 ⟨v476, rfl, ho0, hb⟩; have HO477 := Aside0.mk (Kd.R_lower ho0 (below_size Ub)); replace HB := Aside0.mk (below_step Ub hb); clear hb ho0; obtain ⟨Ao14, co14, eo14⟩ := Kd.R_slice HO477.out; subst eo14) | (go_at_call 116; (with_reducible refine (slices_Max_int_int.calls _ _ t475 t478 _ (Cm (Kd.R_reads' HO477.out).2.2) ((Kd.R_reads' HO477.out).2.1) A11.out).mono ?_); rintro e w15 ⟨rfl, hb⟩; replace HO477 := Aside0.mk (Kd.R_below (Rm HO477.out) hb); replace HB := Aside0.mk (below_step Ub hb); clear hb)); try go_wp2_with (first | (go_at_call 95; (with_reducible refine (impl_fewStamps.calls kj2 _ _ l0 a1 t475 _ (Cm (Kd.C_below HR0.out HB.out)) HC0.out A10.out).mono ?_); rintro e w13 ⟨v476, rfl, ho0, hb⟩; have HO477 := Aside0.mk (Kd.R_lower ho0 (below_size Ub)); replace HB := Aside0.mk (below_step Ub hb); clear hb ho0; obtain ⟨Ao14, co14, eo14⟩ := Kd.R_slice HO477.out; subst eo14) | (go_at_call 116; (with_reducible refine (slices_Max_int_int.calls _ _ t475 t478 _ (Cm (Kd.R_reads' HO477.out).2.2) ((Kd.R_reads' HO477.out).2.1) A11.out).mono ?_); rintro e w15 ⟨rfl, hb⟩; replace HO477 := Aside0.mk (Kd.R_below (Rm HO477.out) hb); replace HB := Aside0.mk (below_step Ub hb); clear hb)))
     go_ret3
     exact ⟨Re, Ub⟩
   have c12b0 : decide (a1 < t478) = false := decide_eq_false c12
   clear c12
   replace H := Option.bind_eq_some_iff.mp H
   obtain ⟨t479, A160, H⟩ := H
   have A16 := Aside0.mk A160
   clear A160
   replace H := Option.bind_eq_some_iff.mp H
   obtain ⟨t480, A170, H⟩ := H
   have A17 := Aside0.mk A170
   clear A170
   replace H := Option.bind_eq_some_iff.mp H
   obtain ⟨t481, A180, H⟩ := H
   have e481 : t481 = t479 := Option.some.inj (A180.symm.trans A16.out)
   rw [e481] at H A180; clear e481
   have A18 := Aside0.mk A180
   clear A180
   replace H := Ic H; rcases H with ⟨c19, H⟩ | ⟨c19, H⟩
   · exact absurd H (by simp)
   have c19b0 : (t480 == 0) = false := beq_eq_false_iff_ne.mpr c19
   have c19b1 := bne_iff_ne.mpr c19
   simp only [Option.some.injEq, Prod.mk.injEq] at H
   obtain ⟨rfl, rfl, rfl⟩ := H
   go_wp2_with (first | (go_at_call 95; (with_reducible refine (impl_fewStamps.calls kj2 _ _ l0 a1 t475 _ (Cm (Kd.C_below HR0.out HB.out)) HC0.out A10.out).mono ?_); rintro e w20 ⟨v476, rfl, ho0, hb⟩; have HO477 := Aside0.mk (Kd.R_lower ho0 (below_size Ub)); replace HB := Aside0.mk (below_step Ub hb); clear hb ho0; obtain ⟨Ao21, co21, eo21⟩ := Kd.R_slice HO477.out; subst eo21) | (go_at_call 116; (with_reducible refine (slices_Max_int_int.calls _ _ t475 t478 _ (Cm (Kd.R_reads' HO477.out).2.2) ((Kd.R_reads' HO477.out).2.1) A11.out).mono ?_); rintro e w22 ⟨rfl, hb⟩; replace HO477 := Aside0.mk (Kd.R_below (Rm HO477.out) hb); replace HB := Aside0.mk (below_step Ub hb); clear hb) | (go_at_call 102; (with_reducible refine (impl_total.calls kj2 _ _ t475 t479 _ (Cm (Kd.R_reads' HO477.out).2.2) ((Kd.R_reads' HO477.out).2.1) A16.out).mono ?_); rintro e w' ⟨rfl, ⟨nd, rfl⟩⟩; (try first | exact ⟨rfl, _, World.drewN_drewN _ _ _⟩ | exact ⟨rfl, _, Eq.trans (World.drewN_drewN _ _ _) (congrArg (World.drewN _) (Nat.add_assoc _ _ _))⟩)) | (go_at_call 117; (with_reducible refine (impl_gcd.calls kj2 t479 a1 t480 _ A17.out).mono ?_); rintro e w' ⟨rfl, ⟨nd, rfl⟩⟩; (try first | exact ⟨rfl, _, World.drewN_drewN _ _ _⟩ | exact ⟨rfl, _, Eq.trans (World.drewN_drewN _ _ _) (congrArg (World.drewN _) (Nat.add_assoc _ _ _))⟩)) | (go_at_call 102; (with_reducible refine (impl_total.calls kj2 _ _ t475 t481 _ (Cm (Kd.R_reads' HO477.out).2.2) ((Kd.R_reads' HO477.out).2.1) A18.out).mono ?_); rintro e w' ⟨rfl, ⟨nd, rfl⟩⟩; (try first | exact ⟨rfl, _, World.drewN_drewN _ _ _⟩ | exact ⟨rfl, _, Eq.trans (World.drewN_drewN _ _ _) (congrArg (World.drewN _) (Nat.add_assoc _ _ _))⟩)))
   repeat (go_quiet (first | (go_at_call 95; (with_reducible refine (impl_fewStamps.calls kj2 _ _ l0 a1 t475 _ (Cm (Kd.C_below HR0.out HB.out)) HC0.out A10.out).mono ?_); rintro e w20 ⟨v476, rfl, ho0, hb⟩; have HO477 := Aside0.mk (Kd.R_lower ho0 (below_size Ub)); replace HB := Aside0.mk (below_step Ub hb); clear hb ho0; obtain ⟨Ao21, co21, eo21⟩ := Kd.R_slice HO477.out; subst eo21) | (go_at_call 116; (with_reducible refine (slices_Max_int_int.calls _ _ t475 t478 _ (Cm (Kd.R_reads' HO477.out).2.2) ((Kd.R_reads' HO477.out).2.1) A11.out).mono ?_); rintro e w22 ⟨rfl, hb⟩; replace HO477 := Aside0.mk (Kd.R_below (Rm HO477.out) hb); replace HB := Aside0.mk (below_step Ub hb); clear hb) | (go_at_call 102; (with_reducible refine (impl_total.calls kj2 _ _ t475 t479 _ (Cm (Kd.R_reads' HO477.out).2.2) ((Kd.R_reads' HO477.out).2.1) A16.out).mono ?_); rintro e w' ⟨rfl, ⟨nd, rfl⟩⟩; (try first | exact ⟨rfl, _, World.drewN_drewN _ _ _⟩ | exact ⟨rfl, _, Eq.trans (World.drewN_drewN _ _ _) (congrArg (World.drewN _) (Nat.add_assoc _ _ _))⟩)) | (go_at_call 117; (with_reducible refine (impl_gcd.calls kj2 t479 a1 t480 _ A17.out).mono ?_); rintro e w' ⟨rfl, ⟨nd, rfl⟩⟩; (try first | exact ⟨rfl, _, World.drewN_drewN _ _ _⟩ | exact ⟨rfl, _, Eq.trans (World.drewN_drewN _ _ _) (congrArg (World.drewN _) (Nat.add_assoc _ _ _))⟩)) | (go_at_call 102; (with_reducible refine (impl_total.calls kj2 _ _ t475 t481 _ (Cm (Kd.R_reads' HO477.out).2.2) ((Kd.R_reads' HO477.out).2.1) A18.out).mono ?_); rintro e w' ⟨rfl, ⟨nd, rfl⟩⟩; (try first | exact ⟨rfl, _, World.drewN_drewN _ _ _⟩ | exact ⟨rfl, _, Eq.trans (World.drewN_drewN _ _ _) (congrArg (World.drewN _) (Nat.add_assoc _ _ _))⟩))); try go_wp2_with (first | (go_at_call 95; (with_reducible refine (impl_fewStamps.calls kj2 _ _ l0 a1 t475 _ (Cm (Kd.C_below HR0.out HB.out)) HC0.out A10.out).mono ?_); rintro e w20 ⟨v476, rfl, ho0, hb⟩; have HO477 := Aside0.mk (Kd.R_lower ho0 (below_size Ub)); replace HB := Aside0.mk (below_step Ub hb); clear hb ho0; obtain ⟨Ao21, co21, eo21⟩ := Kd.R_slice HO477.out; subst eo21) | (go_at_call 116; (with_reducible refine (slices_Max_int_int.calls _ _ t475 t478 _ (Cm (Kd.R_reads' HO477.out).2.2) ((Kd.R_reads' HO477.out).2.1) A11.out).mono ?_); rintro e w22 ⟨rfl, hb⟩; replace HO477 := Aside0.mk (Kd.R_below (Rm HO477.out) hb); replace HB := Aside0.mk (below_step Ub hb); clear hb) | (go_at_call 102; (with_reducible refine (impl_total.calls kj2 _ _ t475 t479 _ (Cm (Kd.R_reads' HO477.out).2.2) ((Kd.R_reads' HO477.out).2.1) A16.out).mono ?_); rintro e w' ⟨rfl, ⟨nd, rfl⟩⟩; (try first | exact ⟨rfl, _, World.drewN_drewN _ _ _⟩ | exact ⟨rfl, _, Eq.trans (World.drewN_drewN _ _ _) (congrArg (World.drewN _) (Nat.add_assoc _ _ _))⟩)) | (go_at_call 117; (with_reducible refine (impl_gcd.calls kj2 t479 a1 t480 _ A17.out).mono ?_); rintro e w' ⟨rfl, ⟨nd, rfl⟩⟩; (try first | exact ⟨rfl, _, World.drewN_drewN _ _ _⟩ | exact ⟨rfl, _, Eq.trans (World.drewN_drewN _ _ _) (congrArg (World.drewN _) (Nat.add_assoc _ _ _))⟩)) | (go_at_call 102; (with_reducible refine (impl_total.calls kj2 _ _ t475 t481 _ (Cm (Kd.R_reads' HO477.out).2.2) ((Kd.R_reads' HO477.out).2.1) A18.out).mono ?_); rintro e w' ⟨rfl, ⟨nd, rfl⟩⟩; (try first | exact ⟨rfl, _, World.drewN_drewN _ _ _⟩ | exact ⟨rfl, _, Eq.trans (World.drewN_drewN _ _ _) (congrArg (World.drewN _) (Nat.add_assoc _ _ _))⟩))))
   go_ret3
   exact ⟨Re, Ub⟩

/-! ### spec_MeanCoins: function 33 -/
mutual
def spec_MeanCoins.j0 : Nat → List Int → Int → Bool → Option (Int × Int × Bool)
 | 0, _, _, _ => none
 | k + 1, x0, x1, x19 => if x19 = true then (some (0, 0, false)) else ((spec_cnFew.f k x0 x1).bind fun t484 => (spec_MeanCoins.l0 k x1 0 t484 (t484.length : Int) 0))
def spec_MeanCoins.l0 : Nat → Int → Int → List Int → Int → Int → Option (Int × Int × Bool)
 | 0, _, _, _, _, _ => none
 | k + 1, x1, x7, x22, x23, x24 => if x24 < x23 then (if 0 ≤ x24 then (if x24 < (x22.length : Int) then (if (rd x22 x24) < 0 then (some (0, 0, false)) else (spec_MeanCoins.l0 k x1 (wrap64 (x7 + (rd x22 x24))) x22 x23 (wrap64 (x24 + 1)))) else (none)) else (none)) else (spec_MeanCoins.l1 k x1 x7 x7 x1)
def spec_MeanCoins.l1 : Nat → Int → Int → Int → Int → Option (Int × Int × Bool)
 | 0, _, _, _, _ => none
 | k + 1, x1, x7, x10, x11 => if x11 > 0 then (if x11 = 0 then (none) else (spec_MeanCoins.l1 k x1 x7 x11 (Int.tmod x10 x11))) else (if x10 = 0 then (none) else (some (wrap64 (Int.tdiv x7 x10), wrap64 (Int.tdiv x1 x10), true)))
end
def spec_MeanCoins.f (k : Nat) (l0 : List Int) (a1 : Int) : Option (Int × Int × Bool) := (spec_cnGood.f k l0).bind fun t482 => (if t482 = true then ((spec_l1In.f a1 1 2000).bind fun t483 => (spec_MeanCoins.j0 k l0 a1 (!t483))) else (spec_MeanCoins.j0 k l0 a1 true))
theorem spec_MeanCoins.calls (k : Nat) (A0 : Option Addr) (c0 : Nat) (l0 : List Int) (a1 : Int) (r1 : Int) (r2 : Int) (r3 : Bool) (w : World) (hr0 : Kd.C (Kd.int .i64) w A0 l0.length l0) (hc0 : l0.length ≤ c0) (h : spec_MeanCoins.f k l0 a1 = some (r1, r2, r3)) :
 Calls Try.prog 33 #[.slice A0 l0.length c0, .int .i64 a1] w fun e w' => e = .returned (.tuple #[.int .i64 r1, .int .i64 r2, .bool r3]) ∧ Below w.heap.size w w' := by
 have HR0 := Aside0.mk hr0
 have HC0 := Aside0.mk hc0
 clear hr0 hc0
 have HB := Aside0.mk (Below.refl w.heap.size w)
 have H := h; unfold spec_MeanCoins.f at H
 clear h
 have HC3 := Aside0.mk H
 clear H
 go_enter Try.func33, Try.ntmps33
 go_upto_region 1 with (fail)
 repeat (go_quiet (fail); go_upto_region 1 with (fail))
 go_cut [19] (fun v19 wc => ∃ (kq : Nat) (x19_2 : Bool), v19 = .bool x19_2 ∧ Aside0 (spec_MeanCoins.j0 kq l0 a1 x19_2 = some (r1, r2, r3)) ∧ Aside0 (kq ≤ k) ∧ Aside0 (Below w.heap.size w wc))
 case first =>
  have H := HC3.out
  clear HC3
  replace H := Option.bind_eq_some_iff.mp H
  obtain ⟨t482, A40, H⟩ := H
  have A4 := Aside0.mk A40
  clear A40
  replace H := Iw H; rcases H with ⟨rfl, H⟩ | ⟨rfl, H⟩
  · replace H := Option.bind_eq_some_iff.mp H
    obtain ⟨t483, A60, H⟩ := H
    have A6 := Aside0.mk A60
    clear A60
    have H' := Aside0.mk H
    clear H
    go_wp2_with (first | (go_at_call 108; (with_reducible refine (spec_cnGood.calls k _ _ l0 true _ (Cm (Kd.C_below HR0.out HB.out)) HC0.out A4.out).mono ?_); rintro e w' ⟨rfl, ⟨nd, rfl⟩⟩; (try first | exact ⟨rfl, _, World.drewN_drewN _ _ _⟩ | exact ⟨rfl, _, Eq.trans (World.drewN_drewN _ _ _) (congrArg (World.drewN _) (Nat.add_assoc _ _ _))⟩)) | (go_at_call 115; (with_reducible refine (spec_l1In.calls a1 1 2000 t483 _ A6.out).mono ?_); rintro e w' ⟨rfl, ⟨nd, rfl⟩⟩; (try first | exact ⟨rfl, _, World.drewN_drewN _ _ _⟩ | exact ⟨rfl, _, Eq.trans (World.drewN_drewN _ _ _) (congrArg (World.drewN _) (Nat.add_assoc _ _ _))⟩)))
    repeat (go_quiet (first | (go_at_call 108; (with_reducible refine (spec_cnGood.calls k _ _ l0 true _ (Cm (Kd.C_below HR0.out HB.out)) HC0.out A4.out).mono ?_); rintro e w' ⟨rfl, ⟨nd, rfl⟩⟩; (try first | exact ⟨rfl, _, World.drewN_drewN _ _ _⟩ | exact ⟨rfl, _, Eq.trans (World.drewN_drewN _ _ _) (congrArg (World.drewN _) (Nat.add_assoc _ _ _))⟩)) | (go_at_call 115; (with_reducible refine (spec_l1In.calls a1 1 2000 t483 _ A6.out).mono ?_); rintro e w' ⟨rfl, ⟨nd, rfl⟩⟩; (try first | exact ⟨rfl, _, World.drewN_drewN _ _ _⟩ | exact ⟨rfl, _, Eq.trans (World.drewN_drewN _ _ _) (congrArg (World.drewN _) (Nat.add_assoc _ _ _))⟩))); try go_wp2_with (first | (go_at_call 108; (with_reducible refine (spec_cnGood.calls k _ _ l0 true _ (Cm (Kd.C_below HR0.out HB.out)) HC0.out A4.out).mono ?_); rintro e w' ⟨rfl, ⟨nd, rfl⟩⟩; (try first | exact ⟨rfl, _, World.drewN_drewN _ _ _⟩ | exact ⟨rfl, _, Eq.trans (World.drewN_drewN _ _ _) (congrArg (World.drewN _) (Nat.add_assoc _ _ _))⟩)) | (go_at_call 115; (with_reducible refine (spec_l1In.calls a1 1 2000 t483 _ A6.out).mono ?_); rintro e w' ⟨rfl, ⟨nd, rfl⟩⟩; (try first | exact ⟨rfl, _, World.drewN_drewN _ _ _⟩ | exact ⟨rfl, _, Eq.trans (World.drewN_drewN _ _ _) (congrArg (World.drewN _) (Nat.add_assoc _ _ _))⟩))))
    go_meet
    case rel => exact ⟨_, (!t483), Rs, H', ⟨by first | omega | exact Nat.le_refl _⟩, ⟨Ub⟩⟩
  have H' := Aside0.mk H
  clear H
  go_wp2_with (first | (go_at_call 108; (with_reducible refine (spec_cnGood.calls k _ _ l0 false _ (Cm (Kd.C_below HR0.out HB.out)) HC0.out A4.out).mono ?_); rintro e w' ⟨rfl, ⟨nd, rfl⟩⟩; (try first | exact ⟨rfl, _, World.drewN_drewN _ _ _⟩ | exact ⟨rfl, _, Eq.trans (World.drewN_drewN _ _ _) (congrArg (World.drewN _) (Nat.add_assoc _ _ _))⟩)))
  repeat (go_quiet (first | (go_at_call 108; (with_reducible refine (spec_cnGood.calls k _ _ l0 false _ (Cm (Kd.C_below HR0.out HB.out)) HC0.out A4.out).mono ?_); rintro e w' ⟨rfl, ⟨nd, rfl⟩⟩; (try first | exact ⟨rfl, _, World.drewN_drewN _ _ _⟩ | exact ⟨rfl, _, Eq.trans (World.drewN_drewN _ _ _) (congrArg (World.drewN _) (Nat.add_assoc _ _ _))⟩))); try go_wp2_with (first | (go_at_call 108; (with_reducible refine (spec_cnGood.calls k _ _ l0 false _ (Cm (Kd.C_below HR0.out HB.out)) HC0.out A4.out).mono ?_); rintro e w' ⟨rfl, ⟨nd, rfl⟩⟩; (try first | exact ⟨rfl, _, World.drewN_drewN _ _ _⟩ | exact ⟨rfl, _, Eq.trans (World.drewN_drewN _ _ _) (congrArg (World.drewN _) (Nat.add_assoc _ _ _))⟩))))
  go_meet
  case rel => exact ⟨_, (true), Rs, H', ⟨by first | omega | exact Nat.le_refl _⟩, ⟨Ub⟩⟩
 case rest =>
  clear HC3
  obtain ⟨kq, x19_2, rfl, HA, HJ2, HB⟩ := hcut
  cases kq with
  | zero => exact absurd HA.out (by simp [spec_MeanCoins.j0])
  | succ kj2 =>
   have H := HA.out
   clear HA
   simp only [spec_MeanCoins.j0] at H
   by_cases c7 : x19_2 = true
   · subst c7
     have H1 : (some (0, 0, false)) = some (r1, r2, r3) := by rw [if_pos rfl] at H; exact H
     clear H
     have H := H1
     clear H1
     simp only [Option.some.injEq, Prod.mk.injEq] at H
     obtain ⟨rfl, rfl, rfl⟩ := H
     go_wp2
     repeat (go_quiet (fail); try go_wp2)
     go_ret3
     exact ⟨Re, Ub⟩
   replace c7 := Bool.eq_false_iff.mpr c7
   subst c7
   have H1 : ((spec_cnFew.f kj2 l0 a1).bind fun t484 => (spec_MeanCoins.l0 kj2 a1 0 t484 (t484.length : Int) 0)) = some (r1, r2, r3) := by rw [if_neg (show ¬ (false = true) by decide)] at H; exact H
   clear H
   have H := H1
   clear H1
   replace H := Option.bind_eq_some_iff.mp H
   obtain ⟨t484, A80, H⟩ := H
   have A8 := Aside0.mk A80
   clear A80
   have H' := Aside0.mk H
   clear H
   go_wp2_with (first | (go_at_call 97; (with_reducible refine (spec_cnFew.calls kj2 _ _ l0 a1 t484 _ (Cm (Kd.C_below HR0.out HB.out)) HC0.out A8.out).mono ?_); rintro e w9 ⟨v485, rfl, ho0, hb⟩; have HO486 := Aside0.mk (Kd.R_lower ho0 (below_size Ub)); replace HB := Aside0.mk (below_step Ub hb); clear hb ho0; obtain ⟨Ao10, co10, eo10⟩ := Kd.R_slice HO486.out; subst eo10))
   repeat (go_quiet (first | (go_at_call 97; (with_reducible refine (spec_cnFew.calls kj2 _ _ l0 a1 t484 _ (Cm (Kd.C_below HR0.out HB.out)) HC0.out A8.out).mono ?_); rintro e w9 ⟨v485, rfl, ho0, hb⟩; have HO486 := Aside0.mk (Kd.R_lower ho0 (below_size Ub)); replace HB := Aside0.mk (below_step Ub hb); clear hb ho0; obtain ⟨Ao10, co10, eo10⟩ := Kd.R_slice HO486.out; subst eo10)); try go_wp2_with (first | (go_at_call 97; (with_reducible refine (spec_cnFew.calls kj2 _ _ l0 a1 t484 _ (Cm (Kd.C_below HR0.out HB.out)) HC0.out A8.out).mono ?_); rintro e w9 ⟨v485, rfl, ho0, hb⟩; have HO486 := Aside0.mk (Kd.R_lower ho0 (below_size Ub)); replace HB := Aside0.mk (below_step Ub hb); clear hb ho0; obtain ⟨Ao10, co10, eo10⟩ := Kd.R_slice HO486.out; subst eo10)))
   go_loopg [7, 24] kj2 (fun kq v7 v24 w' => ∃ (x7_2 : Int) (x24_2 : Int), v7 = .int .i64 x7_2 ∧ v24 = .int .i64 x24_2 ∧ Aside0 (spec_MeanCoins.l0 kq a1 x7_2 t484 (t484.length : Int) x24_2 = some (r1, r2, r3)) ∧ Aside0 (kq ≤ kj2) ∧ Aside0 (Kd.R (Kd.int .i64) 3 w' w.heap.size (fun _ => True) (.slice Ao10 t484.length co10) t484) ∧ Aside0 (Below w.heap.size w w'))
   case atStart => exact ⟨(0), (0), Rs, Rs, H', ⟨Nat.le_refl _⟩, ⟨Rm HO486.out⟩, ⟨Ub⟩⟩
   case round =>
    clear H'
    try clear c7
    obtain ⟨x7_2, x24_2, rfl, rfl, HA, HK2, HO_22, HB⟩ := hrel
    cases gk with
    | zero => exact absurd HA.out (by simp [spec_MeanCoins.l0])
    | succ k2 =>
     have H := HA.out
     clear HA
     simp only [spec_MeanCoins.l0] at H
     replace H := Ic H; rcases H with ⟨c11, H⟩ | ⟨c11, H⟩
     · have c11b0 := decide_eq_true c11
       clear c11
       replace H := Ip H; obtain ⟨c12, H⟩ := H
       have c12b0 := decide_eq_true c12
       clear c12
       replace H := Ip H; obtain ⟨c13, H⟩ := H
       have c13b0 := decide_eq_true c13
       clear c13
       replace H := Ic H; rcases H with ⟨c14, H⟩ | ⟨c14, H⟩
       · have c14b0 := decide_eq_true c14
         clear c14
         simp only [Option.some.injEq, Prod.mk.injEq] at H
         obtain ⟨rfl, rfl, rfl⟩ := H
         obtain ⟨p487, q487, ad487, e487, hx487_0⟩ := Ai (Kd.R_reads' HO_22.out).2.2 x24_2
         cases e487
         go_wp2
         repeat (go_quiet (fail); try go_wp2)
         go_ret3
         exact ⟨Re, Ub⟩
       have c14b0 := decide_eq_false c14
       clear c14
       have H' := Aside0.mk H
       clear H
       obtain ⟨p487, q487, ad487, e487, hx487_0⟩ := Ai (Kd.R_reads' HO_22.out).2.2 x24_2
       cases e487
       go_wp2
       repeat (go_quiet (fail); try go_wp2)
       go_roundg k2
       case measure => have := HJ2.out; have := HK2.out; omega
       case rel => exact ⟨(wrap64 (x7_2 + (rd t484 x24_2))), (wrap64 (x24_2 + 1)), Rs, Rs, H', ⟨by have := HJ2.out; have := HK2.out; omega⟩, ⟨Rm HO_22.out⟩, ⟨Ub⟩⟩
     have c11b0 := decide_eq_false c11
     clear c11
     have H' := Aside0.mk H
     clear H
     go_wp2
     repeat (go_quiet (fail); try go_wp2)
     go_loopg [10, 11] k2 (fun kq v10 v11 w' => ∃ (x10_3 : Int) (x11_3 : Int), v10 = .int .i64 x10_3 ∧ v11 = .int .i64 x11_3 ∧ Aside0 (spec_MeanCoins.l1 kq a1 x7_2 x10_3 x11_3 = some (r1, r2, r3)) ∧ Aside0 (kq ≤ k2) ∧ Aside0 (Below w.heap.size w w'))
     case atStart => exact ⟨(x7_2), (a1), Rs, Rs, H', ⟨Nat.le_refl _⟩, ⟨Ub⟩⟩
     case round =>
      clear H'
      try clear c7
      try clear c11
      try clear c11b0
      try clear c12
      try clear c12b0
      try clear c13
      try clear c13b0
      try clear c14
      try clear c14b0
      try clear hx487_0
      try clear p487
      try clear q487
      obtain ⟨x10_3, x11_3, rfl, rfl, HA, HK3, HB⟩ := hrel
      cases gk with
      | zero => exact absurd HA.out (by simp [spec_MeanCoins.l1])
      | succ k3 =>
       have H := HA.out
       clear HA
       simp only [spec_MeanCoins.l1] at H
       replace H := Ic H; rcases H with ⟨c15, H⟩ | ⟨c15, H⟩
       · have c15b0 : decide (0 < x11_3) = true := decide_eq_true c15
         clear c15
         replace H := Ic H; rcases H with ⟨c16, H⟩ | ⟨c16, H⟩
         · exact absurd H (by simp)
         have c16b0 : (x11_3 == 0) = false := beq_eq_false_iff_ne.mpr c16
         have c16b1 := bne_iff_ne.mpr c16
         have H' := Aside0.mk H
         clear H
         go_wp2
         repeat (go_quiet (fail); try go_wp2)
         go_roundg k3
         case measure => have := HJ2.out; have := HK2.out; have := HK3.out; omega
         case rel => exact ⟨(x11_3), (Int.tmod x10_3 x11_3), Rs, Rs, H', ⟨by have := HJ2.out; have := HK2.out; have := HK3.out; omega⟩, ⟨Ub⟩⟩
       have c15b0 : decide (0 < x11_3) = false := decide_eq_false c15
       clear c15
       replace H := Ic H; rcases H with ⟨c17, H⟩ | ⟨c17, H⟩
       · exact absurd H (by simp)
       have c17b0 : (x10_3 == 0) = false := beq_eq_false_iff_ne.mpr c17
       have c17b1 := bne_iff_ne.mpr c17
       simp only [Option.some.injEq, Prod.mk.injEq] at H
       obtain ⟨rfl, rfl, rfl⟩ := H
       go_wp2
       repeat (go_quiet (fail); try go_wp2)
       go_ret3
       exact ⟨Re, Ub⟩

/-! ### laws_tRises: function 34 -/
def laws_tRises.l0 : Nat → List Int → Int → Option (Bool)
 | 0, _, _ => none
 | k + 1, x0, x3 => if x3 < (x0.length : Int) then (if 0 ≤ (wrap64 (x3 - 1)) then (if (wrap64 (x3 - 1)) < (x0.length : Int) then (if 0 ≤ x3 then (if (rd x0 (wrap64 (x3 - 1))) ≥ (rd x0 x3) then (some false) else (laws_tRises.l0 k x0 (wrap64 (x3 + 1)))) else (none)) else (none)) else (none)) else (some true)
def laws_tRises.f (k : Nat) (l0 : List Int) : Option (Bool) := laws_tRises.l0 k l0 1
theorem laws_tRises.calls (k : Nat) (A0 : Option Addr) (c0 : Nat) (l0 : List Int) (r : Bool) (w : World) (hr0 : Kd.C (Kd.int .i64) w A0 l0.length l0) (hc0 : l0.length ≤ c0) (h : laws_tRises.f k l0 = some r) :
 Calls Try.prog 34 #[.slice A0 l0.length c0] w fun e w' => e = .returned (.bool r) ∧ Drawn0 w w' := by
 have HR0 := Aside0.mk hr0
 have HC0 := Aside0.mk hc0
 clear hr0 hc0
 have H := h; unfold laws_tRises.f at H
 clear h
 have H' := Aside0.mk H
 clear H
 go_enter Try.func34, Try.ntmps34
 go_wp2
 repeat (go_quiet (fail); try go_wp2)
 go_loopg [3] k (fun kq v3 w' => ∃ (x3_1 : Int), v3 = .int .i64 x3_1 ∧ Aside0 (laws_tRises.l0 kq l0 x3_1 = some r) ∧ Aside0 (kq ≤ k) ∧ Drawn0 w w')
 case atStart => exact ⟨(1), Rs, H', ⟨Nat.le_refl _⟩, Dr⟩
 case round =>
  clear H'
  obtain ⟨x3_1, rfl, HA, HK1, ⟨m1, rfl⟩⟩ := hrel
  cases gk with
  | zero => exact absurd HA.out (by simp [laws_tRises.l0])
  | succ k1 =>
   have H := HA.out
   clear HA
   simp only [laws_tRises.l0] at H
   replace H := Ic H; rcases H with ⟨c2, H⟩ | ⟨c2, H⟩
   · have c2b0 := decide_eq_true c2
     clear c2
     obtain ⟨ji3, hji3⟩ : ∃ j_ : Int, (wrap64 (x3_1 - 1)) = j_ := ⟨_, rfl⟩
     replace H : (if 0 ≤ (ji3) then (if (ji3) < (l0.length : Int) then (if 0 ≤ x3_1 then (if (rd l0 (ji3)) ≥ (rd l0 x3_1) then (some false) else (laws_tRises.l0 k1 l0 (wrap64 (x3_1 + 1)))) else (none)) else (none)) else (none)) = some r := by first | (rw [hji3] at H; exact H) | (simp only [hji3] at H ⊢; exact H)
     have hji3w : (IntKind.i64.wrap (x3_1 - 1)) = ji3 := (i64_w _).trans hji3
     replace H := Ip H; obtain ⟨c4, H⟩ := H
     have c4b0 := decide_eq_true c4
     clear c4
     replace H := Ip H; obtain ⟨c5, H⟩ := H
     have c5b0 := decide_eq_true c5
     clear c5
     replace H := Ip H; obtain ⟨c6, H⟩ := H
     have c6b0 := decide_eq_true c6
     clear c6
     replace H := Ic H; rcases H with ⟨c7, H⟩ | ⟨c7, H⟩
     · have c7b0 : decide ((rd l0 x3_1) ≤ (rd l0 (ji3))) = true := decide_eq_true c7
       clear c7
       obtain rfl := Option.some.inj H
       obtain ⟨p488, q488, ad488, e488, hx488_0⟩ := Ai HR0.out (ji3)
       cases e488
       have p489 : 0 ≤ (x3_1 : Int) := Oa
       have q489 : x3_1 < (l0.length : Int) := Oa
       obtain ⟨ad489, e489, hx489_0⟩ := Kd.at_int HR0.out x3_1 p489 q489
       obtain rfl : ad488 = ad489 := (by injection e489)
       replace p489 := eq_true p489
       replace q489 := eq_true q489
       go_wp2
       repeat (go_quiet (fail); try go_wp2)
       go_ret
       exact ⟨by first | rfl | (simp; done) | (simp only [← hji3] <;> (first | rfl | simp)) | (simp [*]; done), Dr⟩
     have c7b0 : decide ((rd l0 x3_1) ≤ (rd l0 (ji3))) = false := decide_eq_false c7
     clear c7
     have H' := Aside0.mk H
     clear H
     obtain ⟨p488, q488, ad488, e488, hx488_0⟩ := Ai HR0.out (ji3)
     cases e488
     have p489 : 0 ≤ (x3_1 : Int) := Oa
     have q489 : x3_1 < (l0.length : Int) := Oa
     obtain ⟨ad489, e489, hx489_0⟩ := Kd.at_int HR0.out x3_1 p489 q489
     obtain rfl : ad488 = ad489 := (by injection e489)
     replace p489 := eq_true p489
     replace q489 := eq_true q489
     go_wp2
     repeat (go_quiet (fail); try go_wp2)
     go_roundg k1
     case measure => have := HK1.out; omega
     case rel => exact ⟨(wrap64 (x3_1 + 1)), Rs, H', ⟨by have := HK1.out; omega⟩, Dr⟩
   have c2b0 := decide_eq_false c2
   clear c2
   obtain rfl := Option.some.inj H
   go_wp2
   repeat (go_quiet (fail); try go_wp2)
   go_ret
   exact ⟨Rs, Dr⟩

end Go.Proofs.Ytjjajbgijncfoaa.PFnChangeGiven
