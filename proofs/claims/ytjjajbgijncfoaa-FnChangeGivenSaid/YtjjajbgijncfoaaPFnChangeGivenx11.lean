-- MADE FOR THIS CLAIM by wip/xp/xprint.py (with the kit's print; some functions' contracts proved by hand)
import Derived.Test.YtjjajbgijncfoaaPFnChangeGivenx0
import Derived.Test.YtjjajbgijncfoaaPFnChangeGivenx1
import Derived.Test.YtjjajbgijncfoaaPFnChangeGivenx3
import Derived.Test.YtjjajbgijncfoaaPFnChangeGivenx4
import Derived.Test.YtjjajbgijncfoaaPFnChangeGivenx5
import Derived.Test.YtjjajbgijncfoaaPFnChangeGivenx10
set_option maxHeartbeats 8000000
set_option maxRecDepth 100000
namespace Go.Proofs.Ytjjajbgijncfoaa.PFnChangeGiven
open Go.RowKit Go.Proofs.YtjjajbgijncfoaaW.PrintWords Go.Proofs.YtjjajbgijncfoaaW.PrintLast Go.Proofs.YtjjajbgijncfoaaW.PrintMore Go.Proofs.Ytjjajbgijncfoaa.Xmv
attribute [local go_sem] max2_int min2_int max_two min_two max_three min_three max_four min_four   -- for this text's walks alone
set_option linter.unusedVariables false
set_option linter.unusedSimpArgs false

/-! ### spec_cnBound: function 112 -/
def spec_cnBound.f (l0 : List Int) : Option (Int) := if (l0.length : Int) = 1 then (if 0 < (l0.length : Int) then (some (rd l0 0)) else (none)) else (if 0 ≤ (wrap64 ((l0.length : Int) - 1)) then (if (wrap64 ((l0.length : Int) - 1)) < (l0.length : Int) then (if 0 ≤ (wrap64 ((l0.length : Int) - 2)) then (if (wrap64 ((l0.length : Int) - 2)) < (l0.length : Int) then ((spec_l1Most.f (wrap64 ((rd l0 (wrap64 ((l0.length : Int) - 1))) * (rd l0 (wrap64 ((l0.length : Int) - 2))))) (wrap64 (2 * (rd l0 (wrap64 ((l0.length : Int) - 1)))))).bind fun t440 => (some t440)) else (none)) else (none)) else (none)) else (none))
theorem spec_cnBound.calls (A0 : Option Addr) (c0 : Nat) (l0 : List Int) (r : Int) (w : World) (hr0 : Kd.C (Kd.int .i64) w A0 l0.length l0) (hc0 : l0.length ≤ c0) (h : spec_cnBound.f l0 = some r) :
 Calls Try.prog 112 #[.slice A0 l0.length c0] w fun e w' => e = .returned (.int .i64 r) ∧ Drawn0 w w' := by
 have HR0 := Aside0.mk hr0
 have HC0 := Aside0.mk hc0
 clear hr0 hc0
 have H := h; unfold spec_cnBound.f at H
 clear h
 replace H := Ic H; rcases H with ⟨c2, H⟩ | ⟨c2, H⟩
 · have c2b0 : ((l0.length : Int) == 1) = true := beq_iff_eq.mpr c2
   have c2b1 := bne_eq_false_iff_eq.mpr c2
   clear c2
   replace H := Ip H; obtain ⟨c3, H⟩ := H
   have c3b0 := decide_eq_true c3
   have c3b1 : decide (0 < l0.length) = true := decide_eq_true (by omega)
   clear c3
   obtain rfl := Option.some.inj H
   have p437 : 0 ≤ (0 : Int) := (by omega)
   have q437 : 0 < (l0.length : Int) := Oa
   obtain ⟨ad437, e437, hx437_0⟩ := Kd.at_int HR0.out 0 p437 q437
   cases e437
   have qi437 : (0 < l0.length) = True := eq_true (by omega)
   (try rw [show ((0 : Int)).toNat = 0 from rfl] at hx437_0)
   (try rw [Addr.add_zero'] at hx437_0)
   replace p437 := eq_true p437
   replace q437 := eq_true q437
   go_enter Try.func112, Try.ntmps112
   go_wp2
   go_ret
   exact ⟨Rs, Dr⟩
 have c2b0 : ((l0.length : Int) == 1) = false := beq_eq_false_iff_ne.mpr c2
 have c2b1 := bne_iff_ne.mpr c2
 obtain ⟨ji4, hji4⟩ : ∃ j_ : Int, (wrap64 ((l0.length : Int) - 1)) = j_ := ⟨_, rfl⟩
 replace H : (if 0 ≤ (ji4) then (if (ji4) < (l0.length : Int) then (if 0 ≤ (wrap64 ((l0.length : Int) - 2)) then (if (wrap64 ((l0.length : Int) - 2)) < (l0.length : Int) then ((spec_l1Most.f (wrap64 ((rd l0 (ji4)) * (rd l0 (wrap64 ((l0.length : Int) - 2))))) (wrap64 (2 * (rd l0 (ji4))))).bind fun t440 => (some t440)) else (none)) else (none)) else (none)) else (none)) = some r := by first | (rw [hji4] at H; exact H) | (simp only [hji4] at H ⊢; exact H)
 have hji4w : (IntKind.i64.wrap ((l0.length : Int) - 1)) = ji4 := (i64_w _).trans hji4
 replace H := Ic H; rcases H with ⟨c5, H⟩ | ⟨c5, H⟩
 · have c5b0 := decide_eq_true c5
   clear c5
   replace H := Ip H; obtain ⟨c6, H⟩ := H
   have c6b0 := decide_eq_true c6
   clear c6
   obtain ⟨ji7, hji7⟩ : ∃ j_ : Int, (wrap64 ((l0.length : Int) - 2)) = j_ := ⟨_, rfl⟩
   replace H : (if 0 ≤ (ji7) then (if (ji7) < (l0.length : Int) then ((spec_l1Most.f (wrap64 ((rd l0 (ji4)) * (rd l0 (ji7)))) (wrap64 (2 * (rd l0 (ji4))))).bind fun t440 => (some t440)) else (none)) else (none)) = some r := by first | (rw [hji7] at H; exact H) | (simp only [hji7] at H ⊢; exact H)
   have hji7w : (IntKind.i64.wrap ((l0.length : Int) - 2)) = ji7 := (i64_w _).trans hji7
   replace H := Ip H; obtain ⟨c8, H⟩ := H
   have c8b0 := decide_eq_true c8
   clear c8
   replace H := Ip H; obtain ⟨c9, H⟩ := H
   have c9b0 := decide_eq_true c9
   clear c9
   replace H := Option.bind_eq_some_iff.mp H
   obtain ⟨t440, A100, H⟩ := H
   have A10 := Aside0.mk A100
   clear A100
   obtain rfl := Option.some.inj H
   obtain ⟨p438, q438, ad438, e438, hx438_0⟩ := Ai HR0.out (ji4)
   cases e438
   have p439 : 0 ≤ ((ji7) : Int) := Oa
   have q439 : (ji7) < (l0.length : Int) := Oa
   obtain ⟨ad439, e439, hx439_0⟩ := Kd.at_int HR0.out (ji7) p439 q439
   obtain rfl : ad438 = ad439 := (by injection e439)
   replace p439 := eq_true p439
   replace q439 := eq_true q439
   go_enter Try.func112, Try.ntmps112
   go_wp2_with (first | (refine Gl 26 #[.int .i64 (wrap64 ((rd l0 (ji4)) * (rd l0 (ji7)))), .int .i64 (wrap64 (2 * (rd l0 (ji4))))] Try.func157 ?_ (hargs := (by (try simp only [List.map_toArray, List.map_cons, List.map_nil]); first | done | (simp only [hji4, hji7]; rfl) | rfl | (simp only [List.length_drop, List.length_take]; rfl))); (with_reducible refine (spec_l1Most.calls (wrap64 ((rd l0 (ji4)) * (rd l0 (ji7)))) (wrap64 (2 * (rd l0 (ji4)))) t440 _ A10.out).mono ?_); rintro e w' ⟨rfl, ⟨nd, rfl⟩⟩; refine ⟨_, rfl, ?_⟩))
   go_ret
   exact ⟨by first | rfl | (simp; done) | (simp only [← hji4, ← hji7] <;> (first | rfl | simp)) | (simp [*]; done), Dr⟩
 exact absurd H (by simp)

/-! ### spec_FirstFailure: function 27 -/
def spec_FirstFailure.l0 : Nat → List Bool → Int → Int → Option (Int × Bool)
 | 0, _, _, _ => none
 | k + 1, x12, x13, x14 => if x14 < x13 then (if 0 ≤ x14 then (if x14 < (x12.length : Int) then (if rdOf false x12 x14 = true then (some (x14, true)) else (spec_FirstFailure.l0 k x12 x13 (wrap64 (x14 + 1)))) else (none)) else (none)) else (some (0, false))
def spec_FirstFailure.f (k : Nat) (l0 : List Int) : Option (Int × Bool) := (spec_cnGood.f k l0).bind fun t441 => (if t441 = true then ((spec_cnBound.f l0).bind fun t442 => ((spec_cnFails.f k l0 t442).bind fun t443 => (spec_FirstFailure.l0 k t443 (t443.length : Int) 0))) else (some (0, false)))
theorem spec_FirstFailure.calls (k : Nat) (A0 : Option Addr) (c0 : Nat) (l0 : List Int) (r1 : Int) (r2 : Bool) (w : World) (hr0 : Kd.C (Kd.int .i64) w A0 l0.length l0) (hc0 : l0.length ≤ c0) (h : spec_FirstFailure.f k l0 = some (r1, r2)) :
 Calls Try.prog 27 #[.slice A0 l0.length c0] w fun e w' => e = .returned (.tuple #[.int .i64 r1, .bool r2]) ∧ Below w.heap.size w w' := by
 have HR0 := Aside0.mk hr0
 have HC0 := Aside0.mk hc0
 clear hr0 hc0
 have HB := Aside0.mk (Below.refl w.heap.size w)
 have H := h; unfold spec_FirstFailure.f at H
 clear h
 replace H := Option.bind_eq_some_iff.mp H
 obtain ⟨t441, A20, H⟩ := H
 have A2 := Aside0.mk A20
 clear A20
 replace H := Iw H; rcases H with ⟨rfl, H⟩ | ⟨rfl, H⟩
 · replace H := Option.bind_eq_some_iff.mp H
   obtain ⟨t442, A40, H⟩ := H
   have A4 := Aside0.mk A40
   clear A40
   replace H := Option.bind_eq_some_iff.mp H
   obtain ⟨t443, A50, H⟩ := H
   have A5 := Aside0.mk A50
   clear A50
   have H' := Aside0.mk H
   clear H
   go_enter Try.func27, Try.ntmps27
   go_wp2_with (first | (refine Gl 7 #[.slice A0 l0.length c0] Try.func108 ?_; (with_reducible refine (spec_cnGood.calls k _ _ l0 true _ (Cm HR0.out) HC0.out A2.out).mono ?_); rintro e w' ⟨rfl, ⟨nd, rfl⟩⟩; refine ⟨_, rfl, ?_⟩) | (refine Gl 11 #[.slice A0 l0.length c0] Try.func112 ?_; (with_reducible refine (spec_cnBound.calls _ _ l0 t442 _ (Cm HR0.out) HC0.out A4.out).mono ?_); rintro e w' ⟨rfl, ⟨nd, rfl⟩⟩; refine ⟨_, rfl, ?_⟩) | (refine Gl 12 #[.slice A0 l0.length c0, .int .i64 t442] Try.func111 ?_; (with_reducible refine (spec_cnFails.calls k _ _ l0 t442 t443 _ (Cm HR0.out) HC0.out A5.out).mono ?_); rintro e w6 ⟨v444, rfl, ho0, hb⟩; refine ⟨_, rfl, ?_⟩; have HO445 := Aside0.mk (Kd.R_lower ho0 (below_size Ub)); replace HB := Aside0.mk (below_step Ub hb); clear hb ho0; obtain ⟨Ao7, co7, eo7⟩ := Kd.R_slice HO445.out; subst eo7))
   go_loopg [14] k (fun kq v14 w' => ∃ (x14_1 : Int), v14 = .int .i64 x14_1 ∧ Aside0 (spec_FirstFailure.l0 kq t443 (t443.length : Int) x14_1 = some (r1, r2)) ∧ Aside0 (kq ≤ k) ∧ Aside0 (Kd.R Kd.bool 4 w' w.heap.size (fun _ => True) (.slice Ao7 t443.length co7) t443) ∧ Aside0 (Below w.heap.size w w'))
   case atStart => exact ⟨(0), Rs, H', ⟨Nat.le_refl _⟩, ⟨Rm HO445.out⟩, ⟨Ub⟩⟩
   case round =>
    clear H'
    obtain ⟨x14_1, rfl, HA, HK1, HO_12, HB⟩ := hrel
    cases gk with
    | zero => exact absurd HA.out (by simp [spec_FirstFailure.l0])
    | succ k1 =>
     have H := HA.out
     clear HA
     simp only [spec_FirstFailure.l0] at H
     replace H := Ic H; rcases H with ⟨c8, H⟩ | ⟨c8, H⟩
     · have c8b0 := decide_eq_true c8
       clear c8
       replace H := Ip H; obtain ⟨c9, H⟩ := H
       have c9b0 := decide_eq_true c9
       clear c9
       replace H := Ip H; obtain ⟨c10, H⟩ := H
       have c10b0 := decide_eq_true c10
       clear c10
       obtain ⟨bq11, hbq11⟩ : ∃ b_ : Bool, b_ = (rdOf false t443 x14_1) := ⟨_, rfl⟩
       replace H : (if bq11 = true then (some (x14_1, true)) else (spec_FirstFailure.l0 k1 t443 (t443.length : Int) (wrap64 (x14_1 + 1)))) = some (r1, r2) := by rw [← hbq11] at H; exact H
       have Nbq11 := Aside0.mk hbq11
       clear hbq11
       by_cases c12 : bq11 = true
       · subst c12
         have H1 : (some (x14_1, true)) = some (r1, r2) := by rw [if_pos rfl] at H; exact H
         clear H
         have H := H1
         clear H1
         simp only [Option.some.injEq, Prod.mk.injEq] at H
         obtain ⟨rfl, rfl⟩ := H
         have p446 : 0 ≤ (x14_1 : Int) := Oa
         have q446 : x14_1 < (t443.length : Int) := Oa
         obtain ⟨ad446, e446, hx446_0⟩ := Kd.at_bool (Kd.R_reads' HO_12.out).2.2 x14_1 p446 q446
         (try rw [← Nbq11.out] at hx446_0)
         cases e446
         replace p446 := eq_true p446
         replace q446 := eq_true q446
         go_wp2
         go_ret2
         exact ⟨Re, Ub⟩
       replace c12 := Bool.eq_false_iff.mpr c12
       subst c12
       have H1 : (spec_FirstFailure.l0 k1 t443 (t443.length : Int) (wrap64 (x14_1 + 1))) = some (r1, r2) := by rw [if_neg (show ¬ (false = true) by decide)] at H; exact H
       clear H
       have H := H1
       clear H1
       have H' := Aside0.mk H
       clear H
       have p446 : 0 ≤ (x14_1 : Int) := Oa
       have q446 : x14_1 < (t443.length : Int) := Oa
       obtain ⟨ad446, e446, hx446_0⟩ := Kd.at_bool (Kd.R_reads' HO_12.out).2.2 x14_1 p446 q446
       (try rw [← Nbq11.out] at hx446_0)
       cases e446
       replace p446 := eq_true p446
       replace q446 := eq_true q446
       go_wp2
       go_roundg k1
       case measure => have := HK1.out; omega
       case rel => exact ⟨(wrap64 (x14_1 + 1)), Rs, H', ⟨by have := HK1.out; omega⟩, ⟨Rm HO_12.out⟩, ⟨Ub⟩⟩
     have c8b0 := decide_eq_false c8
     clear c8
     simp only [Option.some.injEq, Prod.mk.injEq] at H
     obtain ⟨rfl, rfl⟩ := H
     go_wp2
     go_ret2
     exact ⟨Re, Ub⟩
 simp only [Option.some.injEq, Prod.mk.injEq] at H
 obtain ⟨rfl, rfl⟩ := H
 go_enter Try.func27, Try.ntmps27
 go_wp2_with (first | (refine Gl 7 #[.slice A0 l0.length c0] Try.func108 ?_; (with_reducible refine (spec_cnGood.calls k _ _ l0 false _ (Cm HR0.out) HC0.out A2.out).mono ?_); rintro e w' ⟨rfl, ⟨nd, rfl⟩⟩; refine ⟨_, rfl, ?_⟩))
 go_ret2
 exact ⟨Re, Ub⟩

/-! ### impl_IsGreedy: function 28 -/
def impl_IsGreedy.f (k : Nat) (l0 : List Int) : Option (Bool × Bool) := (impl_AreCoins.f k l0).bind fun t447 => (if t447 = true then ((impl_FirstFailure.f k l0).bind fun bt448 => (some (!bt448.2, true))) else (some (false, false)))
theorem impl_IsGreedy.calls (k : Nat) (A0 : Option Addr) (c0 : Nat) (l0 : List Int) (r1 : Bool) (r2 : Bool) (w : World) (hr0 : Kd.C (Kd.int .i64) w A0 l0.length l0) (hc0 : l0.length ≤ c0) (h : impl_IsGreedy.f k l0 = some (r1, r2)) :
 Calls Try.prog 28 #[.slice A0 l0.length c0] w fun e w' => e = .returned (.tuple #[.bool r1, .bool r2]) ∧ Below w.heap.size w w' := by
 have HR0 := Aside0.mk hr0
 have HC0 := Aside0.mk hc0
 clear hr0 hc0
 have HB := Aside0.mk (Below.refl w.heap.size w)
 have H := h; unfold impl_IsGreedy.f at H
 clear h
 replace H := Option.bind_eq_some_iff.mp H
 obtain ⟨t447, A20, H⟩ := H
 have A2 := Aside0.mk A20
 clear A20
 replace H := Iw H; rcases H with ⟨rfl, H⟩ | ⟨rfl, H⟩
 · replace H := Option.bind_eq_some_iff.mp H
   obtain ⟨⟨t448, t449⟩, A40, H⟩ := H
   have A4 := Aside0.mk A40
   clear A40
   simp only [Option.some.injEq, Prod.mk.injEq] at H
   obtain ⟨rfl, rfl⟩ := H
   go_enter Try.func28, Try.ntmps28
   go_wp2_with (first | (refine Gl 7 #[.slice A0 l0.length c0] Try.func20 ?_; (with_reducible refine (impl_AreCoins.calls k _ _ l0 true _ (Cm HR0.out) HC0.out A2.out).mono ?_); rintro e w5 ⟨rfl, hb⟩; refine ⟨_, rfl, ?_⟩; replace HB := Aside0.mk (below_step Ub hb); clear hb) | (refine Gl 11 #[.slice A0 l0.length c0] Try.func26 ?_; (with_reducible refine (impl_FirstFailure.calls k _ _ l0 t448 t449 _ (Cm (Kd.C_below HR0.out HB.out)) HC0.out A4.out).mono ?_); rintro e w6 ⟨rfl, hb⟩; refine ⟨_, rfl, ?_⟩; replace HB := Aside0.mk (below_step Ub hb); clear hb))
   go_ret2
   exact ⟨Re, Ub⟩
 simp only [Option.some.injEq, Prod.mk.injEq] at H
 obtain ⟨rfl, rfl⟩ := H
 go_enter Try.func28, Try.ntmps28
 go_wp2_with (first | (refine Gl 7 #[.slice A0 l0.length c0] Try.func20 ?_; (with_reducible refine (impl_AreCoins.calls k _ _ l0 false _ (Cm HR0.out) HC0.out A2.out).mono ?_); rintro e w7 ⟨rfl, hb⟩; refine ⟨_, rfl, ?_⟩; replace HB := Aside0.mk (below_step Ub hb); clear hb))
 go_ret2
 exact ⟨Re, Ub⟩

/-! ### spec_IsGreedy: function 29 -/
def spec_IsGreedy.f (k : Nat) (l0 : List Int) : Option (Bool × Bool) := (spec_cnGood.f k l0).bind fun t450 => (if t450 = true then ((spec_FirstFailure.f k l0).bind fun bt451 => (some (!bt451.2, true))) else (some (false, false)))
theorem spec_IsGreedy.calls (k : Nat) (A0 : Option Addr) (c0 : Nat) (l0 : List Int) (r1 : Bool) (r2 : Bool) (w : World) (hr0 : Kd.C (Kd.int .i64) w A0 l0.length l0) (hc0 : l0.length ≤ c0) (h : spec_IsGreedy.f k l0 = some (r1, r2)) :
 Calls Try.prog 29 #[.slice A0 l0.length c0] w fun e w' => e = .returned (.tuple #[.bool r1, .bool r2]) ∧ Below w.heap.size w w' := by
 have HR0 := Aside0.mk hr0
 have HC0 := Aside0.mk hc0
 clear hr0 hc0
 have HB := Aside0.mk (Below.refl w.heap.size w)
 have H := h; unfold spec_IsGreedy.f at H
 clear h
 replace H := Option.bind_eq_some_iff.mp H
 obtain ⟨t450, A20, H⟩ := H
 have A2 := Aside0.mk A20
 clear A20
 replace H := Iw H; rcases H with ⟨rfl, H⟩ | ⟨rfl, H⟩
 · replace H := Option.bind_eq_some_iff.mp H
   obtain ⟨⟨t451, t452⟩, A40, H⟩ := H
   have A4 := Aside0.mk A40
   clear A40
   simp only [Option.some.injEq, Prod.mk.injEq] at H
   obtain ⟨rfl, rfl⟩ := H
   go_enter Try.func29, Try.ntmps29
   go_wp2_with (first | (refine Gl 7 #[.slice A0 l0.length c0] Try.func108 ?_; (with_reducible refine (spec_cnGood.calls k _ _ l0 true _ (Cm HR0.out) HC0.out A2.out).mono ?_); rintro e w' ⟨rfl, ⟨nd, rfl⟩⟩; refine ⟨_, rfl, ?_⟩) | (refine Gl 11 #[.slice A0 l0.length c0] Try.func27 ?_; (with_reducible refine (spec_FirstFailure.calls k _ _ l0 t451 t452 _ (Cm HR0.out) HC0.out A4.out).mono ?_); rintro e w5 ⟨rfl, hb⟩; refine ⟨_, rfl, ?_⟩; replace HB := Aside0.mk (below_step Ub hb); clear hb))
   go_ret2
   exact ⟨Re, Ub⟩
 simp only [Option.some.injEq, Prod.mk.injEq] at H
 obtain ⟨rfl, rfl⟩ := H
 go_enter Try.func29, Try.ntmps29
 go_wp2_with (first | (refine Gl 7 #[.slice A0 l0.length c0] Try.func108 ?_; (with_reducible refine (spec_cnGood.calls k _ _ l0 false _ (Cm HR0.out) HC0.out A2.out).mono ?_); rintro e w' ⟨rfl, ⟨nd, rfl⟩⟩; refine ⟨_, rfl, ?_⟩))
 go_ret2
 exact ⟨Re, Ub⟩

/-! ### spec_DrawFailuresUpTo: function 30 -/
def spec_DrawFailuresUpTo_in.f (k : Nat) (s0_0 : List Int) (s0_1 : Int) (s0_2 : Int) : Option (List Int × Int × Int × Int) := (spec_l1Cur_coins.f k s0_0 s0_1 s0_2).bind fun bt453 => ((spec_l1Cur_among.f s0_0 bt453.2.1 bt453.2.2 (([0, 1, 20, 60, 2000, 2001, (-1)] : List Int))).bind fun bt461 => (some (bt453.1, bt461.1, bt461.2.1, bt461.2.2)))
def spec_DrawFailuresUpTo.f (k : Nat) (l0 : List Int) : Option (List Int × Int) := (spec_DrawFailuresUpTo_in.f k l0 0 0).bind fun t_ => some (t_.1, t_.2.1)
theorem spec_DrawFailuresUpTo.calls (k : Nat) (A0_ : Option Addr) (c0_ : Nat) (s0_0 : List Int) (r1 : List Int) (r2 : Int) (w0 : World) (hr0_ : Kd.C (Kd.int .u8) w0 A0_ s0_0.length s0_0) (hc0_ : s0_0.length ≤ c0_) (h : spec_DrawFailuresUpTo.f k s0_0 = some (r1, r2)) :
 Calls Try.prog 30 #[.slice A0_ s0_0.length c0_] w0 fun e w' => ∃ v0_ : Value, e = .returned (.tuple #[v0_, .int .i64 r2]) ∧ Kd.V (Kd.int .i64) 3 w' w0.heap.size (fun k_ => (w0.heap.size ≤ k_)) v0_ r1 ∧ Below w0.heap.size w0 w' := by
 unfold spec_DrawFailuresUpTo.f at h
 obtain ⟨tt_, h0_, h⟩ := Option.bind_eq_some_iff.1 h
 obtain ⟨y0_, y1_, r3, r4⟩ := tt_
 have h := (Option.some.inj h).symm
 simp only [Prod.mk.injEq] at h
 obtain ⟨e0_, e1_⟩ := h
 subst e0_
 subst e1_
 obtain ⟨s0_1, es1_⟩ : ∃ s_ : Int, s_ = 0 := ⟨_, rfl⟩
 obtain ⟨s0_2, es2_⟩ : ∃ s_ : Int, s_ = 0 := ⟨_, rfl⟩
 have h : spec_DrawFailuresUpTo_in.f k s0_0 s0_1 s0_2 = some (r1, r2, r3, r4) := by subst es1_ es2_; exact h0_
 clear h0_
 obtain ⟨g, hg_⟩ : ∃ g_, g_ = w0.heap.size := ⟨_, rfl⟩
 obtain ⟨w, hw_⟩ : ∃ w_, w_ = w0.alloc (.cells #[.slice A0_ s0_0.length c0_, .int .i64 0, .int .u64 0] 65) := ⟨_, rfl⟩
 have hI : IsS65 w0 w g s0_0 s0_1 s0_2 := by subst hw_; subst hg_; subst es1_; subst es2_; exact ⟨A0_, c0_, blk_new _ _, Nat.le_refl _, hr0_⟩
 have hB : Below w0.heap.size w0 w := by subst hw_; exact below_alloc (Below.refl _ _) _
 have HGW_ := Aside0.mk (And.intro hg_ hw_)
 have hle_ := hB.size
 clear hg_ hw_ es1_ es2_ hr0_ hc0_
 refine (show Calls Try.prog 30 #[.slice A0_ s0_0.length c0_] w0 (fun e w' => ∃ v0_ : Value, e = .returned (.tuple #[v0_, .int .i64 r2]) ∧ Kd.V (Kd.int .i64) 3 w' w.heap.size (fun k_ => (w.heap.size ≤ k_)) v0_ r1 ∧ IsS65 w0 w' g s0_0 r3 r4 ∧ Below w0.heap.size w0 w' ∧ KeepBut w w' g none) from ?_).mono (fun e w' hx_ => by obtain ⟨v0_, rfl, hx1_, hx2_, hx3_, hx4_⟩ := hx_; exact ⟨v0_, rfl, Kd.V_mono (Kd.V_lower hx1_ hle_) (fun k_ hk_ => Nat.le_trans hle_ hk_), hx3_⟩)
 clear hle_
 have HI0 := Aside0.mk hI
 have HK := Aside0.mk (KeepBut.refl w g none)
 have HL := Aside0.mk hB.size
 clear hI
 have HW0 := Aside0.mk hB.size
 have HB := Aside0.mk hB
 clear hB
 have H := h; unfold spec_DrawFailuresUpTo.f at H
 clear h
 replace H := Option.bind_eq_some_iff.mp H
 obtain ⟨⟨t453, t456, t457⟩, A20, H⟩ := H
 have A2 := Aside0.mk A20
 clear A20
 obtain ⟨y458, hy458⟩ : ∃ y_ : List Int, y_ = (([0, 1, 20, 60, 2000, 2001, (-1)] : List Int)) := ⟨_, rfl⟩
 replace H : ((spec_l1Cur_among.f s0_0 t456 t457 y458).bind fun bt461 => (some (t453, bt461.1, bt461.2.1, bt461.2.2))) = some (r1, r2, r3, r4) := by first | (rw [hy458]; with_reducible exact H) | (have H2_ := (Option.bind_some _ _).symm.trans H; rw [hy458]; with_reducible exact H2_) | (have H2_ := (Option.bind_some _ _).symm.trans H; with_reducible exact H2_) | with_reducible exact H | (rw [hy458]; exact H) | exact H
 have Ny458 := Aside0.mk hy458
 clear hy458
 replace H := Option.bind_eq_some_iff.mp H
 obtain ⟨⟨t461, t462, t463⟩, A30, H⟩ := H
 have A3 := Aside0.mk A30
 clear A30
 simp only [Option.some.injEq, Prod.mk.injEq] at H
 obtain ⟨rfl, rfl, rfl, rfl⟩ := H
 go_enter Try.func30, Try.ntmps30
 go_upto_region 2 with (fail)
 (try simp only [Act.put, List.setIfInBounds_toArray, List.set_cons_zero, List.set_cons_succ])
 have hgw_ := HGW_.out
 rw [← hgw_.2, ← hgw_.1]
 clear hgw_
 go_wp2_with (first | (refine Gl 9 #[.pointer (some ⟨g, 0, none⟩)] Try.func113 ?_; (with_reducible refine (spec_l1Cur_coins.calls k g s0_0 s0_1 s0_2 t453 t456 t457 w0 _ ?side1 ?side2 A2.out).mono ?_); (case side1 => repeat (first | (with_reducible first | exact HI0.out | apply IsS65.alloc | apply IsS65.drewN | apply IsS65.drew | apply IsS65.set_1 | apply IsS65.set_2) | exact HI0.out)); (case side2 => repeat (first | (with_reducible first | exact HB.out | apply below_alloc | apply pw_below_drewN | apply below_drew1 | refine below_set ?_ (IsS65.ge HI0.out)) | exact HB.out)); rintro e w4 ⟨v454, rfl, ho0, hi, hb, hk⟩; refine ⟨_, rfl, ?_⟩; have HO455 := Aside0.mk (Kd.V_lower (Kd.V_mono (ok' := fun k_ => (w.heap.size ≤ k_) ∧ k_ ≠ g) ho0 (fun k_ hk_ => ⟨(Nat.le_trans (keep_size (w := w) (g := g) (row := none) (by repeat (first | (with_reducible first | exact HK.out | apply KeepBut.set_ | apply keep_drewN | apply keep_drew | apply keep_alloc) | exact HK.out))) hk_), (IsS65.fresh (by repeat (first | (with_reducible first | exact HI0.out | apply IsS65.alloc | apply IsS65.drewN | apply IsS65.drew | apply IsS65.set_1 | apply IsS65.set_2) | exact HI0.out)) k_ hk_)⟩)) (keep_size (w := w) (g := g) (row := none) (by repeat (first | (with_reducible first | exact HK.out | apply KeepBut.set_ | apply keep_drewN | apply keep_drew | apply keep_alloc) | exact HK.out)))); replace HK := Aside0.mk (KeepBut.trans (by repeat (first | (with_reducible first | exact HK.out | apply KeepBut.set_ | apply keep_drewN | apply keep_drew | apply keep_alloc) | exact HK.out)) hk (.inl rfl)); replace HB := Aside0.mk (hb); replace HI0 := Aside0.mk (hi); clear hb hk hi ho0) | ((with_reducible refine gate_dst (N := 11) rfl ?_); refine Kd.R_lit (Kd.int .i64) _ 3 ?hg (N := 11) ?hd (xs := ([0, 1, 20, 60, 2000, 2001, (-1)] : List Int)) (inner := [.int .i64 0, .int .i64 1, .int .i64 20, .int .i64 60, .int .i64 2000, .int .i64 2001, .int .i64 (-1)]) (ok := fun _ => True) (okp := fun _ => True) ?hr ?hp (fun _ hk => hk) trivial (Below.refl _ _) (Nat.le_refl _) (by simp) ?_; (case hd => rfl); (case hg => rfl); (case hr => first | (go_simp; done) | (go_simp; rfl)); (case hp => exact (Reps.one (show Kd.M (Kd.int .i64) _ _ _ 0 [.int .i64 0] from rfl) (Reps.one (show Kd.M (Kd.int .i64) _ _ _ 1 [.int .i64 1] from rfl) (Reps.one (show Kd.M (Kd.int .i64) _ _ _ 20 [.int .i64 20] from rfl) (Reps.one (show Kd.M (Kd.int .i64) _ _ _ 60 [.int .i64 60] from rfl) (Reps.one (show Kd.M (Kd.int .i64) _ _ _ 2000 [.int .i64 2000] from rfl) (Reps.one (show Kd.M (Kd.int .i64) _ _ _ 2001 [.int .i64 2001] from rfl) (Reps.one (show Kd.M (Kd.int .i64) _ _ _ (-1) [.int .i64 (-1)] from rfl) (Reps.none _ _))))))))); intro v459 w5 ho6 hb hg_ hnew_; clear hg_ hnew_; (first | rw [← Ny458.out] at ho6 | (simp only [Int.reduceToNat] at ho6; rw [← Ny458.out] at ho6)); replace HO455 := Aside0.mk (Kd.V_elder' (by (with_reducible repeat (first | apply Kd.V_alloc | apply Kd.V_drewN | apply Kd.V_drew)); exact HO455.out) (Kd.R_base ho6) hb); have HO460 := Aside0.mk (Kd.R_lower (Kd.R_newM (M := fun k_ => (w.heap.size ≤ k_)) ho6 (keep_size (w := w) (g := g) (row := none) (by repeat (first | (with_reducible first | exact HK.out | apply KeepBut.set_ | apply keep_drewN | apply keep_drew | apply keep_alloc) | exact HK.out))) (fun k_ h_ => h_)) (keep_size (w := w) (g := g) (row := none) (by repeat (first | (with_reducible first | exact HK.out | apply KeepBut.set_ | apply keep_drewN | apply keep_drew | apply keep_alloc) | exact HK.out)))); replace HK := Aside0.mk (KeepBut.trans (by repeat (first | (with_reducible first | exact HK.out | apply KeepBut.set_ | apply keep_drewN | apply keep_drew | apply keep_alloc) | exact HK.out)) (KeepBut.of_below hb g none) (.inl rfl)); replace HB := Aside0.mk (below_step (by repeat (first | (with_reducible first | exact HB.out | apply below_alloc | apply pw_below_drewN | apply below_drew1 | refine below_set ?_ (IsS65.ge HI0.out)) | exact HB.out)) hb); replace HI0 := Aside0.mk (IsS65.below (by repeat (first | (with_reducible first | exact HI0.out | apply IsS65.alloc | apply IsS65.drewN | apply IsS65.drew | apply IsS65.set_1 | apply IsS65.set_2) | exact HI0.out)) hb); clear hb ho6; obtain ⟨Ao7, co7, eo7⟩ := Kd.R_slice HO460.out; subst eo7) | (refine Gl 12 #[.pointer (some ⟨g, 0, none⟩), .slice Ao7 y458.length co7] Try.func114 ?_; (with_reducible refine (spec_l1Cur_among.calls g s0_0 t456 t457 _ _ y458 t461 t462 t463 w0 _ ?side1 ?side2 (Cm (Kd.R_reads' HO460.out).2.2) ((Kd.R_reads' HO460.out).2.1) ?side5 A3.out).mono ?_); (case side1 => repeat (first | (with_reducible first | exact HI0.out | apply IsS65.alloc | apply IsS65.drewN | apply IsS65.drew | apply IsS65.set_1 | apply IsS65.set_2) | exact HI0.out)); (case side2 => repeat (first | (with_reducible first | exact HB.out | apply below_alloc | apply pw_below_drewN | apply below_drew1 | refine below_set ?_ (IsS65.ge HI0.out)) | exact HB.out)); (case side5 => exact far_slice (IsS65.own_ne HI0.out HO460.out (by decide))); rintro e w8 ⟨rfl, hi, hb, hk⟩; refine ⟨_, rfl, ?_⟩; replace HO455 := Aside0.mk (Kd.V_mono (Kd.V_keep (Kd.V_mono (ok := fun k_ => ((((w.heap.size ≤ k_)) ∧ k_ ≠ g) ∧ some k_ ≠ (.slice Ao7 y458.length co7 : Value).ownBlock)) (by (with_reducible repeat (first | apply Kd.V_alloc | apply Kd.V_drewN | apply Kd.V_drew)); exact HO455.out) (fun k_ hk_ => (⟨hk_, hk_.1.2⟩ : _ ∧ k_ ≠ g))) hk (fun _ h => h.2)) (fun _ h => h.1)); replace HO460 := Aside0.mk (Kd.R_mono (Kd.R_keep (IsS65.apart (show IsS65 w0 _ g s0_0 t456 t457 from by repeat (first | (with_reducible first | exact HI0.out | apply IsS65.alloc | apply IsS65.drewN | apply IsS65.drew | apply IsS65.set_1 | apply IsS65.set_2) | exact HI0.out)) (Rm HO460.out) (by decide)) hk (fun _ h => h.2)) (fun _ h => h.1)); replace HK := Aside0.mk (KeepBut.trans (by repeat (first | (with_reducible first | exact HK.out | apply KeepBut.set_ | apply keep_drewN | apply keep_drew | apply keep_alloc) | exact HK.out)) hk (.inl rfl)); replace HB := Aside0.mk (hb); replace HI0 := Aside0.mk (hi); clear hb hk hi))
 go_ret2
 exact ⟨_, Re, by (with_reducible repeat (first | apply Kd.V_alloc | apply Kd.V_drewN | apply Kd.V_drew)); exact Kd.V_mono HO455.out (fun _ hk => hk.1.1), by repeat (first | (with_reducible first | exact HI0.out | apply IsS65.alloc | apply IsS65.drewN | apply IsS65.drew | apply IsS65.set_1 | apply IsS65.set_2) | exact HI0.out), by repeat (first | (with_reducible first | exact HB.out | apply below_alloc | apply pw_below_drewN | apply below_drew1 | refine below_set ?_ (IsS65.ge HI0.out)) | exact HB.out), by repeat (first | (with_reducible first | exact HK.out | apply KeepBut.set_ | apply keep_drewN | apply keep_drew | apply keep_alloc) | exact HK.out)⟩

/-! ### spec_FailuresUpTo: function 31 -/
mutual
def spec_FailuresUpTo.j0 : Nat → List Int → Int → Bool → Option (List Int × Bool)
 | 0, _, _, _ => none
 | k + 1, x0, x1, x16 => if x16 = true then (some (([] : List Int), false)) else ((spec_cnFails.f k x0 x1).bind fun t466 => (spec_FailuresUpTo.l0 k ([] : List Int) t466 (t466.length : Int) 0))
def spec_FailuresUpTo.l0 : Nat → List Int → List Bool → Int → Int → Option (List Int × Bool)
 | 0, _, _, _, _ => none
 | k + 1, x6, x19, x20, x21 => if x21 < x20 then (if 0 ≤ x21 then (if x21 < (x19.length : Int) then (if rdOf false x19 x21 = true then (if x6.length < 17592186044416 then (spec_FailuresUpTo.l0 k (x6 ++ [x21]) x19 x20 (wrap64 (x21 + 1))) else (none)) else (spec_FailuresUpTo.l0 k x6 x19 x20 (wrap64 (x21 + 1)))) else (none)) else (none)) else (some (x6, true))
end
def spec_FailuresUpTo.f (k : Nat) (l0 : List Int) (a1 : Int) : Option (List Int × Bool) := (spec_cnGood.f k l0).bind fun t464 => (if t464 = true then ((spec_l1In.f a1 0 2000).bind fun t465 => (spec_FailuresUpTo.j0 k l0 a1 (!t465))) else (spec_FailuresUpTo.j0 k l0 a1 true))
theorem spec_FailuresUpTo.calls (k : Nat) (A0 : Option Addr) (c0 : Nat) (l0 : List Int) (a1 : Int) (r1 : List Int) (r2 : Bool) (w : World) (hr0 : Kd.C (Kd.int .i64) w A0 l0.length l0) (hc0 : l0.length ≤ c0) (h : spec_FailuresUpTo.f k l0 a1 = some (r1, r2)) :
 Calls Try.prog 31 #[.slice A0 l0.length c0, .int .i64 a1] w fun e w' => ∃ v0_ : Value, e = .returned (.tuple #[v0_, .bool r2]) ∧ Kd.R (Kd.int .i64) 3 w' w.heap.size (fun _ => True) v0_ r1 ∧ Below w.heap.size w w' := by
 have HR0 := Aside0.mk hr0
 have HC0 := Aside0.mk hc0
 clear hr0 hc0
 have HB := Aside0.mk (Below.refl w.heap.size w)
 have H := h; unfold spec_FailuresUpTo.f at H
 clear h
 have HC3 := Aside0.mk H
 clear H
 go_enter Try.func31, Try.ntmps31
 go_upto_region 1 with (fail)
 go_cut [16] (fun v16 wc => ∃ (kq : Nat) (x16_2 : Bool), v16 = .bool x16_2 ∧ Aside0 (spec_FailuresUpTo.j0 kq l0 a1 x16_2 = some (r1, r2)) ∧ Aside0 (kq ≤ k) ∧ Aside0 (Below w.heap.size w wc))
 case first =>
  have H := HC3.out
  clear HC3
  replace H := Option.bind_eq_some_iff.mp H
  obtain ⟨t464, A40, H⟩ := H
  have A4 := Aside0.mk A40
  clear A40
  replace H := Iw H; rcases H with ⟨rfl, H⟩ | ⟨rfl, H⟩
  · replace H := Option.bind_eq_some_iff.mp H
    obtain ⟨t465, A60, H⟩ := H
    have A6 := Aside0.mk A60
    clear A60
    have H' := Aside0.mk H
    clear H
    go_wp2_with (first | (refine Gl 10 #[.slice A0 l0.length c0] Try.func108 ?_; (with_reducible refine (spec_cnGood.calls k _ _ l0 true _ (Cm (Kd.C_below HR0.out HB.out)) HC0.out A4.out).mono ?_); rintro e w' ⟨rfl, ⟨nd, rfl⟩⟩; refine ⟨_, rfl, ?_⟩) | (go_at_call 115; (with_reducible refine (spec_l1In.calls a1 0 2000 t465 _ A6.out).mono ?_); rintro e w' ⟨rfl, ⟨nd, rfl⟩⟩))
    go_meet
    case rel => exact ⟨_, (!t465), Rs, H', ⟨by first | omega | exact Nat.le_refl _⟩, ⟨Ub⟩⟩
  have H' := Aside0.mk H
  clear H
  go_wp2_with (first | (refine Gl 10 #[.slice A0 l0.length c0] Try.func108 ?_; (with_reducible refine (spec_cnGood.calls k _ _ l0 false _ (Cm (Kd.C_below HR0.out HB.out)) HC0.out A4.out).mono ?_); rintro e w' ⟨rfl, ⟨nd, rfl⟩⟩; refine ⟨_, rfl, ?_⟩))
  go_meet
  case rel => exact ⟨_, (true), Rs, H', ⟨by first | omega | exact Nat.le_refl _⟩, ⟨Ub⟩⟩
 case rest =>
  clear HC3
  obtain ⟨kq, x16_2, rfl, HA, HJ2, HB⟩ := hcut
  cases kq with
  | zero => exact absurd HA.out (by simp [spec_FailuresUpTo.j0])
  | succ kj2 =>
   have H := HA.out
   clear HA
   simp only [spec_FailuresUpTo.j0] at H
   by_cases c7 : x16_2 = true
   · subst c7
     have H1 : (some (([] : List Int), false)) = some (r1, r2) := by rw [if_pos rfl] at H; exact H
     clear H
     have H := H1
     clear H1
     simp only [Option.some.injEq, Prod.mk.injEq] at H
     obtain ⟨rfl, rfl⟩ := H
     go_wp2
     go_ret2
     exact ⟨_, Re, Nl, Ub⟩
   replace c7 := Bool.eq_false_iff.mpr c7
   subst c7
   have H1 : ((spec_cnFails.f kj2 l0 a1).bind fun t466 => (spec_FailuresUpTo.l0 kj2 ([] : List Int) t466 (t466.length : Int) 0)) = some (r1, r2) := by rw [if_neg (show ¬ (false = true) by decide)] at H; exact H
   clear H
   have H := H1
   clear H1
   replace H := Option.bind_eq_some_iff.mp H
   obtain ⟨t466, A80, H⟩ := H
   have A8 := Aside0.mk A80
   clear A80
   have H' := Aside0.mk H
   clear H
   go_wp2_with (first | (refine Gl 19 #[.slice A0 l0.length c0, .int .i64 a1] Try.func111 ?_; (with_reducible refine (spec_cnFails.calls kj2 _ _ l0 a1 t466 _ (Cm (Kd.C_below HR0.out HB.out)) HC0.out A8.out).mono ?_); rintro e w9 ⟨v467, rfl, ho0, hb⟩; refine ⟨_, rfl, ?_⟩; have HO468 := Aside0.mk (Kd.R_lower ho0 (below_size Ub)); replace HB := Aside0.mk (below_step Ub hb); clear hb ho0; obtain ⟨Ao10, co10, eo10⟩ := Kd.R_slice HO468.out; subst eo10))
   go_loopg [6, 21] kj2 (fun kq v6 v21 w' => ∃ (x6_2 : List Int) (x21_2 : Int), v21 = .int .i64 x21_2 ∧ Aside0 (spec_FailuresUpTo.l0 kq x6_2 t466 (t466.length : Int) x21_2 = some (r1, r2)) ∧ Aside0 (kq ≤ kj2) ∧ Aside0 (Kd.R (Kd.int .i64) 3 w' w.heap.size (fun _ => True) v6 x6_2) ∧ Aside0 (Kd.R Kd.bool 4 w' w.heap.size (fun _ => True) (.slice Ao10 t466.length co10) t466) ∧ Aside0 (Below w.heap.size w w'))
   case atStart => exact ⟨(([] : List Int)), (0), Rs, H', ⟨Nat.le_refl _⟩, ⟨Nl⟩, ⟨Rm HO468.out⟩, ⟨Ub⟩⟩
   case round =>
    clear H'
    try clear c7
    obtain ⟨x6_2, x21_2, rfl, HA, HK2, HO_6, HO_19, HB⟩ := hrel
    cases gk with
    | zero => exact absurd HA.out (by simp [spec_FailuresUpTo.l0])
    | succ k2 =>
     have H := HA.out
     clear HA
     simp only [spec_FailuresUpTo.l0] at H
     replace H := Ic H; rcases H with ⟨c11, H⟩ | ⟨c11, H⟩
     · have c11b0 := decide_eq_true c11
       clear c11
       replace H := Ip H; obtain ⟨c12, H⟩ := H
       have c12b0 := decide_eq_true c12
       clear c12
       replace H := Ip H; obtain ⟨c13, H⟩ := H
       have c13b0 := decide_eq_true c13
       clear c13
       obtain ⟨bq14, hbq14⟩ : ∃ b_ : Bool, b_ = (rdOf false t466 x21_2) := ⟨_, rfl⟩
       replace H : (if bq14 = true then (if x6_2.length < 17592186044416 then (spec_FailuresUpTo.l0 k2 (x6_2 ++ [x21_2]) t466 (t466.length : Int) (wrap64 (x21_2 + 1))) else (none)) else (spec_FailuresUpTo.l0 k2 x6_2 t466 (t466.length : Int) (wrap64 (x21_2 + 1)))) = some (r1, r2) := by rw [← hbq14] at H; exact H
       have Nbq14 := Aside0.mk hbq14
       clear hbq14
       by_cases c15 : bq14 = true
       · subst c15
         have H1 : (if x6_2.length < 17592186044416 then (spec_FailuresUpTo.l0 k2 (x6_2 ++ [x21_2]) t466 (t466.length : Int) (wrap64 (x21_2 + 1))) else (none)) = some (r1, r2) := by rw [if_pos rfl] at H; exact H
         clear H
         have H := H1
         clear H1
         replace H := Ip H; obtain ⟨c16, H⟩ := H
         have LMc16 := Aside0.mk c16
         clear c16
         obtain ⟨y470, hy470⟩ : ∃ y_ : List Int, y_ = (x6_2 ++ [x21_2]) := ⟨_, rfl⟩
         replace H : (spec_FailuresUpTo.l0 k2 y470 t466 (t466.length : Int) (wrap64 (x21_2 + 1))) = some (r1, r2) := by first | (rw [hy470]; with_reducible exact H) | (have H2_ := (Option.bind_some _ _).symm.trans H; rw [hy470]; with_reducible exact H2_) | (have H2_ := (Option.bind_some _ _).symm.trans H; with_reducible exact H2_) | with_reducible exact H | (rw [hy470]; exact H) | exact H
         have Ny470 := Aside0.mk hy470
         clear hy470
         have H' := Aside0.mk H
         clear H
         have p469 : 0 ≤ (x21_2 : Int) := Oa
         have q469 : x21_2 < (t466.length : Int) := Oa
         obtain ⟨ad469, e469, hx469_0⟩ := Kd.at_bool (Kd.R_reads' HO_19.out).2.2 x21_2 p469 q469
         (try rw [← Nbq14.out] at hx469_0)
         cases e469
         replace p469 := eq_true p469
         replace q469 := eq_true q469
         go_wp2_with (first | ((with_reducible refine gate_builtin (b := .append) (xs := #[.tmp 27, .tmp 29]) rfl ?_); at_builtin; refine Kd.R_append (Kd.int .i64) (w0 := w) w.heap.size rfl (.tmp 27) (.tmp 29) 24 3 (.int .i64 0) 8 rfl Try.underlying24 info3 rfl (by decide) (by omega) u6 x6_2 x21_2 [.int .i64 x21_2] (fun _ => True) (fun _ => False) rfl rfl ?aP (fun _ hk => hk.elim) ?aF ?aO ?aB ?aS ?aL ?_; (case aP => exact rfl); (case aB => exact Ub); (case aF => exact (fun _ _ => trivial)); (case aO => exact (Rm HO_6.out)); (case aS => exact (below_size Ub)); (case aL => have := LMc16.out; omega); intro v471 w17 ho hb hg hat; rw [← Ny470.out] at ho; replace HO_19 := Aside0.mk (Kd.R_over' (Rm HO_19.out) (Kd.R_typed (Rm HO_6.out)) (by decide) hg); replace HB := Aside0.mk (hb); have HO472 := Aside0.mk (ho); clear HO_6; clear ho hb hg hat))
         go_roundg k2
         case measure => have := HJ2.out; have := HK2.out; omega
         case rel => exact ⟨(y470), (wrap64 (x21_2 + 1)), Rs, H', ⟨by have := HJ2.out; have := HK2.out; omega⟩, ⟨Rm HO472.out⟩, ⟨Rm HO_19.out⟩, ⟨Ub⟩⟩
       replace c15 := Bool.eq_false_iff.mpr c15
       subst c15
       have H1 : (spec_FailuresUpTo.l0 k2 x6_2 t466 (t466.length : Int) (wrap64 (x21_2 + 1))) = some (r1, r2) := by rw [if_neg (show ¬ (false = true) by decide)] at H; exact H
       clear H
       have H := H1
       clear H1
       have H' := Aside0.mk H
       clear H
       have p469 : 0 ≤ (x21_2 : Int) := Oa
       have q469 : x21_2 < (t466.length : Int) := Oa
       obtain ⟨ad469, e469, hx469_0⟩ := Kd.at_bool (Kd.R_reads' HO_19.out).2.2 x21_2 p469 q469
       (try rw [← Nbq14.out] at hx469_0)
       cases e469
       replace p469 := eq_true p469
       replace q469 := eq_true q469
       go_wp2
       go_roundg k2
       case measure => have := HJ2.out; have := HK2.out; omega
       case rel => exact ⟨(x6_2), (wrap64 (x21_2 + 1)), Rs, H', ⟨by have := HJ2.out; have := HK2.out; omega⟩, ⟨Rm HO_6.out⟩, ⟨Rm HO_19.out⟩, ⟨Ub⟩⟩
     have c11b0 := decide_eq_false c11
     clear c11
     simp only [Option.some.injEq, Prod.mk.injEq] at H
     obtain ⟨rfl, rfl⟩ := H
     go_wp2
     go_ret2
     exact ⟨_, Re, Rm HO_6.out, Ub⟩

/-! ### slices_Max_int_int: function 116 -/
-- GIVEN slices.Max[[]int,int]
/-- The greatest of the rest and m. -/
def maxF : List Int → Int → Int
  | [], m => m
  | x :: s, m => maxF s (mx m x)
def slices_Max_int_int.f (l0 : List Int) : Option (Int) := if 0 < l0.length then some (maxF (l0.drop 1) (rd l0 0)) else none
set_option maxHeartbeats 2000000 in
theorem slices_Max_int_int.calls (A0 : Option Addr) (c0 : Nat) (l0 : List Int) (r : Int) (w : World) (hr0 : Kd.C (Kd.int .i64) w A0 l0.length l0) (hc0 : l0.length ≤ c0) (h : slices_Max_int_int.f l0 = some r) :
    Calls Try.prog 116 #[.slice A0 l0.length c0] w fun e w' => e = .returned (.int .i64 r) ∧ Below w.heap.size w w' := by
  unfold slices_Max_int_int.f at h
  by_cases hp : 0 < l0.length
  · rw [if_pos hp] at h
    have H0 := Aside0.mk (Option.some.inj h)
    have HR0 := Aside0.mk hr0
    have hbig : l0.length ≤ 9223372036854775807 := hr0.2.1
    obtain ⟨ad0, e1, hx0⟩ := Kd.at_int hr0 0 (by omega) (by omega)
    cases e1
    have hx00 : w.cell? ad0 = some (.int .i64 (rd l0 0)) := by cases ad0; simpa [Addr.add] using hx0
    have h1 : ¬ ((l0.length : Int) < 1) := by omega
    have h1d := decide_eq_false h1
    have h2 : 0 < (l0.length : Int) := by omega
    clear h hr0 hc0
    go_enter Try.func116, Try.ntmps116
    go_wp2
    go_loopg [3, 4] l0.length (fun gg s3 s4 wr => ∃ (m kk : Int), s3 = .int .i64 m ∧ s4 = .int .i64 kk ∧ Aside0 (1 ≤ kk ∧ kk ≤ l0.length ∧ l0.length - kk ≤ gg) ∧ Aside0 (Below w.heap.size w wr) ∧ Aside0 (maxF (l0.drop kk.toNat) m = r))
    case atStart => exact ⟨rd l0 0, 1, rfl, by simp, ⟨by omega⟩, ⟨Below.refl _ w⟩, H0⟩
    case round =>
      obtain ⟨m, kk, rfl, rfl, HK, HB, HA⟩ := hrel
      have ⟨hk0, hk1, hk2⟩ := HK.out
      by_cases hlt : kk < (l0.length : Int)
      · obtain ⟨ad, e1, hx⟩ := Kd.at_int (Kd.C_below HR0.out HB.out) kk (by omega) hlt
        cases e1
        have hlt0 := decide_eq_true hlt
        have hlt1 := eq_true hlt
        have hk00 : 0 ≤ kk := by omega
        have hk01 := eq_true hk00
        clear hk2 hk1
        rcases Int.lt_or_le m (rd l0 kk) with hb | hb
        · have HM : Aside0 (mx m (rd l0 kk) = rd l0 kk) := ⟨by unfold mx; split <;> omega⟩
          go_wp2
          go_roundg (gk - 1)
          case measure => have := HK.out; omega
          case rel =>
            have hK := HK.out
            refine ⟨rd l0 kk, kk + 1, rfl, (by first | rfl | rw [show wrap64 (kk + 1) = kk + 1 by unfold wrap64; omega]), ⟨by omega⟩, HB, ⟨?_⟩⟩
            have hrd : l0[kk.toNat]'(by omega) = rd l0 kk := by unfold rd; rw [List.getD_eq_getElem?_getD, List.getElem?_eq_getElem (by omega), Option.getD_some]
            rw [← HA.out, List.drop_eq_getElem_cons (i := kk.toNat) (by omega), maxF, hrd, HM.out, show (kk + 1).toNat = kk.toNat + 1 by omega]
        · have HM : Aside0 (mx m (rd l0 kk) = m) := ⟨by unfold mx; split <;> omega⟩
          go_wp2
          go_roundg (gk - 1)
          case measure => have := HK.out; omega
          case rel =>
            have hK := HK.out
            refine ⟨m, kk + 1, rfl, (by first | rfl | rw [show wrap64 (kk + 1) = kk + 1 by unfold wrap64; omega]), ⟨by omega⟩, HB, ⟨?_⟩⟩
            have hrd : l0[kk.toNat]'(by omega) = rd l0 kk := by unfold rd; rw [List.getD_eq_getElem?_getD, List.getElem?_eq_getElem (by omega), Option.getD_some]
            rw [← HA.out, List.drop_eq_getElem_cons (i := kk.toNat) (by omega), maxF, hrd, HM.out, show (kk + 1).toNat = kk.toNat + 1 by omega]
      · have hlt0 := decide_eq_false hlt
        have hlt1 := eq_false hlt
        clear hk2
        go_wp2
        go_ret
        have H := HA.out
        rw [List.drop_of_length_le (by omega), maxF] at H
        exact ⟨by rw [← H]; rfl, HB.out⟩
  · rw [if_neg hp] at h; cases h


/-! ### impl_gcd: function 117 -/
def impl_gcd.l0 : Nat → Int → Int → Option (Int)
 | 0, _, _ => none
 | k + 1, x0, x1 => if x1 = 0 then (some x0) else (impl_gcd.l0 k x1 (Int.tmod x0 x1))
def impl_gcd.f (k : Nat) (a0 : Int) (a1 : Int) : Option (Int) := impl_gcd.l0 k a0 a1
theorem impl_gcd.calls (k : Nat) (a0 : Int) (a1 : Int) (r : Int) (w : World) (h : impl_gcd.f k a0 a1 = some r) :
 Calls Try.prog 117 #[.int .i64 a0, .int .i64 a1] w fun e w' => e = .returned (.int .i64 r) ∧ Drawn0 w w' := by
 have H := h; unfold impl_gcd.f at H
 clear h
 have H' := Aside0.mk H
 clear H
 go_enter Try.func117, Try.ntmps117
 go_wp2
 repeat (go_quiet (fail); try go_wp2)
 go_loopg [0, 1] k (fun kq v0 v1 w' => ∃ (x0_1 : Int) (x1_1 : Int), v0 = .int .i64 x0_1 ∧ v1 = .int .i64 x1_1 ∧ Aside0 (impl_gcd.l0 kq x0_1 x1_1 = some r) ∧ Aside0 (kq ≤ k) ∧ Drawn0 w w')
 case atStart => exact ⟨(a0), (a1), Rs, Rs, H', ⟨Nat.le_refl _⟩, Dr⟩
 case round =>
  clear H'
  obtain ⟨x0_1, x1_1, rfl, rfl, HA, HK1, ⟨m1, rfl⟩⟩ := hrel
  cases gk with
  | zero => exact absurd HA.out (by simp [impl_gcd.l0])
  | succ k1 =>
   have H := HA.out
   clear HA
   simp only [impl_gcd.l0] at H
   replace H := Ic H; rcases H with ⟨c3, H⟩ | ⟨c3, H⟩
   · have c3b0 : (x1_1 == 0) = true := beq_iff_eq.mpr c3
     have c3b1 := bne_eq_false_iff_eq.mpr c3
     clear c3
     obtain rfl := Option.some.inj H
     go_wp2
     repeat (go_quiet (fail); try go_wp2)
     go_ret
     exact ⟨Rs, Dr⟩
   have c3b0 : (x1_1 == 0) = false := beq_eq_false_iff_ne.mpr c3
   have c3b1 := bne_iff_ne.mpr c3
   have H' := Aside0.mk H
   clear H
   go_wp2
   repeat (go_quiet (fail); try go_wp2)
   go_roundg k1
   case measure => have := HK1.out; omega
   case rel => exact ⟨(x1_1), (Int.tmod x0_1 x1_1), Rs, Rs, H', ⟨by have := HK1.out; omega⟩, Dr⟩

end Go.Proofs.Ytjjajbgijncfoaa.PFnChangeGiven
