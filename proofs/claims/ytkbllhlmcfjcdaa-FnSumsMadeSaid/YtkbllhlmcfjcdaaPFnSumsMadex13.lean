-- MADE FOR THIS CLAIM by wip/xp/xprint.py (with the kit's print; some functions' contracts proved by hand)
import Derived.Test.YtkbllhlmcfjcdaaPFnSumsMadex0
import Derived.Test.YtkbllhlmcfjcdaaPFnSumsMadex4
import Derived.Test.YtkbllhlmcfjcdaaPFnSumsMadex5
import Derived.Test.YtkbllhlmcfjcdaaPFnSumsMadex10
set_option maxHeartbeats 8000000
set_option maxRecDepth 100000
namespace Go.Proofs.Ytkbllhlmcfjcdaa.PFnSumsMade
open Go.RowKit Go.Proofs.YtkbllhlmcfjcdaaW.PrintWords Go.Proofs.YtkbllhlmcfjcdaaW.PrintLast Go.Proofs.YtkbllhlmcfjcdaaW.PrintMore Go.Proofs.Ytkbllhlmcfjcdaa.Xmv
attribute [local go_sem] max2_int min2_int max_two min_two max_three min_three max_four min_four   -- for this text's walks alone
set_option linter.unusedVariables false
set_option linter.unusedSimpArgs false

/-! ### impl_ClosestSum: function 49 -/
def impl_ClosestSum.l0 : Nat → Int → Int → List Int → Int → Int → Option (Int × Bool)
 | 0, _, _, _, _, _ => none
 | k + 1, x1, x6, x14, x15, x16 => if x16 < x15 then (if 0 ≤ x16 then (if x16 < (x14.length : Int) then (if (mx (wrap64 ((rd x14 x16) - x1)) (wrap64 (x1 - (rd x14 x16)))) < (mx (wrap64 (x6 - x1)) (wrap64 (x1 - x6))) then (impl_ClosestSum.l0 k x1 (rd x14 x16) x14 x15 (wrap64 (x16 + 1))) else (impl_ClosestSum.l0 k x1 x6 x14 x15 (wrap64 (x16 + 1)))) else (none)) else (none)) else (some (x6, true))
def impl_ClosestSum.f (k : Nat) (l0 : List Int) (a1 : Int) : Option (Int × Bool) := (impl_isSum.f k l0 a1).bind fun t484 => (if t484 = true then ((impl_sums.f k l0).bind fun t485 => (impl_ClosestSum.l0 k a1 0 t485 (t485.length : Int) 0)) else (some (0, false)))
theorem impl_ClosestSum.calls (k : Nat) (A0 : Option Addr) (c0 : Nat) (l0 : List Int) (a1 : Int) (r1 : Int) (r2 : Bool) (w : World) (hr0 : Kd.C (Kd.int .i64) w A0 l0.length l0) (hc0 : l0.length ≤ c0) (h : impl_ClosestSum.f k l0 a1 = some (r1, r2)) :
 Calls Try.prog 49 #[.slice A0 l0.length c0, .int .i64 a1] w fun e w' => e = .returned (.tuple #[.int .i64 r1, .bool r2]) ∧ Below w.heap.size w w' := by
 have HR0 := Aside0.mk hr0
 have HC0 := Aside0.mk hc0
 clear hr0 hc0
 have HB := Aside0.mk (Below.refl w.heap.size w)
 have H := h; unfold impl_ClosestSum.f at H
 clear h
 replace H := Option.bind_eq_some_iff.mp H
 obtain ⟨t484, A30, H⟩ := H
 have A3 := Aside0.mk A30
 clear A30
 replace H := Iw H; rcases H with ⟨rfl, H⟩ | ⟨rfl, H⟩
 · replace H := Option.bind_eq_some_iff.mp H
   obtain ⟨t485, A50, H⟩ := H
   have A5 := Aside0.mk A50
   clear A50
   have H' := Aside0.mk H
   clear H
   go_enter Try.func49, Try.ntmps49
   go_wp2_with (first | (refine Gl 11 #[.slice A0 l0.length c0, .int .i64 a1] Try.func84 ?_; (with_reducible refine (impl_isSum.calls k _ _ l0 a1 true _ (Cm HR0.out) HC0.out A3.out).mono ?_); rintro e w6 ⟨rfl, hb⟩; refine ⟨_, rfl, ?_⟩; replace HB := Aside0.mk (below_step Ub hb); clear hb) | (refine Gl 14 #[.slice A0 l0.length c0] Try.func70 ?_; (with_reducible refine (impl_sums.calls k _ _ l0 t485 _ (Cm (Kd.C_below HR0.out HB.out)) HC0.out A5.out).mono ?_); rintro e w7 ⟨v486, rfl, ho0, hb⟩; refine ⟨_, rfl, ?_⟩; have HO487 := Aside0.mk (Kd.R_lower ho0 (below_size Ub)); replace HB := Aside0.mk (below_step Ub hb); clear hb ho0; obtain ⟨Ao8, co8, eo8⟩ := Kd.R_slice HO487.out; subst eo8))
   go_loopg [6, 16] k (fun kq v6 v16 w' => ∃ (x6_1 : Int) (x16_1 : Int), v6 = .int .i64 x6_1 ∧ v16 = .int .i64 x16_1 ∧ Aside0 (impl_ClosestSum.l0 kq a1 x6_1 t485 (t485.length : Int) x16_1 = some (r1, r2)) ∧ Aside0 (kq ≤ k) ∧ Aside0 (Kd.R (Kd.int .i64) 3 w' w.heap.size (fun _ => True) (.slice Ao8 t485.length co8) t485) ∧ Aside0 (Below w.heap.size w w'))
   case atStart => exact ⟨(0), (0), Rs, Rs, H', ⟨Nat.le_refl _⟩, ⟨Rm HO487.out⟩, ⟨Ub⟩⟩
   case round =>
    clear H'
    obtain ⟨x6_1, x16_1, rfl, rfl, HA, HK1, HO_14, HB⟩ := hrel
    cases gk with
    | zero => exact absurd HA.out (by simp [impl_ClosestSum.l0])
    | succ k1 =>
     have H := HA.out
     clear HA
     simp only [impl_ClosestSum.l0] at H
     replace H := Ic H; rcases H with ⟨c9, H⟩ | ⟨c9, H⟩
     · have c9b0 := decide_eq_true c9
       clear c9
       replace H := Ip H; obtain ⟨c10, H⟩ := H
       have c10b0 := decide_eq_true c10
       clear c10
       replace H := Ip H; obtain ⟨c11, H⟩ := H
       have c11b0 := decide_eq_true c11
       clear c11
       obtain ⟨ji12, hji12⟩ : ∃ j_ : Int, (mx (wrap64 ((rd t485 x16_1) - a1)) (wrap64 (a1 - (rd t485 x16_1)))) = j_ := ⟨_, rfl⟩
       replace H : (if (ji12) < (mx (wrap64 (x6_1 - a1)) (wrap64 (a1 - x6_1))) then (impl_ClosestSum.l0 k1 a1 (rd t485 x16_1) t485 (t485.length : Int) (wrap64 (x16_1 + 1))) else (impl_ClosestSum.l0 k1 a1 x6_1 t485 (t485.length : Int) (wrap64 (x16_1 + 1)))) = some (r1, r2) := by first | (rw [hji12] at H; exact H) | (simp only [hji12] at H ⊢; exact H)
       have hji12_ : (if (wrap64 ((rd t485 x16_1) - a1)) < (wrap64 (a1 - (rd t485 x16_1))) then (wrap64 (a1 - (rd t485 x16_1))) else (wrap64 ((rd t485 x16_1) - a1))) = ji12 := hji12
       obtain ⟨ji13, hji13⟩ : ∃ j_ : Int, (mx (wrap64 (x6_1 - a1)) (wrap64 (a1 - x6_1))) = j_ := ⟨_, rfl⟩
       replace H : (if (ji12) < (ji13) then (impl_ClosestSum.l0 k1 a1 (rd t485 x16_1) t485 (t485.length : Int) (wrap64 (x16_1 + 1))) else (impl_ClosestSum.l0 k1 a1 x6_1 t485 (t485.length : Int) (wrap64 (x16_1 + 1)))) = some (r1, r2) := by first | (rw [hji13] at H; exact H) | (simp only [hji13] at H ⊢; exact H)
       have hji13_ : (if (wrap64 (x6_1 - a1)) < (wrap64 (a1 - x6_1)) then (wrap64 (a1 - x6_1)) else (wrap64 (x6_1 - a1))) = ji13 := hji13
       replace H := Ic H; rcases H with ⟨c14, H⟩ | ⟨c14, H⟩
       · have c14b0 := decide_eq_true c14
         clear c14
         have H' := Aside0.mk H
         clear H
         obtain ⟨p488, q488, ad488, e488, hx488_0⟩ := Ai (Kd.R_reads' HO_14.out).2.2 x16_1
         cases e488
         go_wp2
         go_roundg k1
         case measure => have := HK1.out; omega
         case rel => exact ⟨(rd t485 x16_1), (wrap64 (x16_1 + 1)), Rs, Rs, H', ⟨by have := HK1.out; omega⟩, ⟨Rm HO_14.out⟩, ⟨Ub⟩⟩
       have c14b0 := decide_eq_false c14
       clear c14
       have H' := Aside0.mk H
       clear H
       obtain ⟨p488, q488, ad488, e488, hx488_0⟩ := Ai (Kd.R_reads' HO_14.out).2.2 x16_1
       cases e488
       go_wp2
       go_roundg k1
       case measure => have := HK1.out; omega
       case rel => exact ⟨(x6_1), (wrap64 (x16_1 + 1)), Rs, Rs, H', ⟨by have := HK1.out; omega⟩, ⟨Rm HO_14.out⟩, ⟨Ub⟩⟩
     have c9b0 := decide_eq_false c9
     clear c9
     simp only [Option.some.injEq, Prod.mk.injEq] at H
     obtain ⟨rfl, rfl⟩ := H
     go_wp2
     go_ret2
     exact ⟨Re, Ub⟩
 simp only [Option.some.injEq, Prod.mk.injEq] at H
 obtain ⟨rfl, rfl⟩ := H
 go_enter Try.func49, Try.ntmps49
 go_wp2_with (first | (refine Gl 11 #[.slice A0 l0.length c0, .int .i64 a1] Try.func84 ?_; (with_reducible refine (impl_isSum.calls k _ _ l0 a1 false _ (Cm HR0.out) HC0.out A3.out).mono ?_); rintro e w15 ⟨rfl, hb⟩; refine ⟨_, rfl, ?_⟩; replace HB := Aside0.mk (below_step Ub hb); clear hb))
 go_ret2
 exact ⟨Re, Ub⟩

/-! ### spec_l1Most: function 109 -/
def spec_l1Most.f (a0 : Int) (a1 : Int) : Option (Int) := if a0 > a1 then (some a0) else (some a1)
theorem spec_l1Most.calls (a0 : Int) (a1 : Int) (r : Int) (w : World) (h : spec_l1Most.f a0 a1 = some r) :
 Calls Try.prog 109 #[.int .i64 a0, .int .i64 a1] w fun e w' => e = .returned (.int .i64 r) ∧ Drawn0 w w' := by
 have H := h; unfold spec_l1Most.f at H
 clear h
 replace H := Ic H; rcases H with ⟨c3, H⟩ | ⟨c3, H⟩
 · have c3b0 : decide (a1 < a0) = true := decide_eq_true c3
   clear c3
   obtain rfl := Option.some.inj H
   go_enter Try.func109, Try.ntmps109
   go_wp2
   go_ret
   exact ⟨Rs, Dr⟩
 have c3b0 : decide (a1 < a0) = false := decide_eq_false c3
 clear c3
 obtain rfl := Option.some.inj H
 go_enter Try.func109, Try.ntmps109
 go_wp2
 go_ret
 exact ⟨Rs, Dr⟩

/-! ### spec_l1Abs: function 88 -/
def spec_l1Abs.f (a0 : Int) : Option (Int) := (spec_l1Most.f a0 (wrap64 (-a0))).bind fun t489 => (some t489)
theorem spec_l1Abs.calls (a0 : Int) (r : Int) (w : World) (h : spec_l1Abs.f a0 = some r) :
 Calls Try.prog 88 #[.int .i64 a0] w fun e w' => e = .returned (.int .i64 r) ∧ Drawn0 w w' := by
 have H := h; unfold spec_l1Abs.f at H
 clear h
 replace H := Option.bind_eq_some_iff.mp H
 obtain ⟨t489, A20, H⟩ := H
 have A2 := Aside0.mk A20
 clear A20
 obtain rfl := Option.some.inj H
 go_enter Try.func88, Try.ntmps88
 go_wp2_with (first | (refine Gl 6 #[.int .i64 a0, .int .i64 (wrap64 (-a0))] Try.func109 ?_; (with_reducible refine (spec_l1Most.calls a0 (wrap64 (-a0)) t489 _ A2.out).mono ?_); rintro e w' ⟨rfl, ⟨nd, rfl⟩⟩; refine ⟨_, rfl, ?_⟩))
 go_ret
 exact ⟨Rs, Dr⟩

/-! ### spec_ClosestSum: function 50 -/
def spec_ClosestSum.l0 : Nat → Int → Int → List Int → Int → Int → Option (Int × Bool)
 | 0, _, _, _, _, _ => none
 | k + 1, x1, x6, x14, x15, x16 => if x16 < x15 then (if 0 ≤ x16 then (if x16 < (x14.length : Int) then ((spec_l1Abs.f (wrap64 ((rd x14 x16) - x1))).bind fun t495 => ((spec_l1Abs.f (wrap64 (x6 - x1))).bind fun t496 => (if t495 < t496 then (spec_ClosestSum.l0 k x1 (rd x14 x16) x14 x15 (wrap64 (x16 + 1))) else (spec_ClosestSum.l0 k x1 x6 x14 x15 (wrap64 (x16 + 1)))))) else (none)) else (none)) else (some (x6, true))
def spec_ClosestSum.f (k : Nat) (l0 : List Int) (a1 : Int) : Option (Int × Bool) := (spec_piAsked.f k l0 a1).bind fun t490 => (if t490 = true then ((spec_piSums.f k l0).bind fun t491 => (spec_ClosestSum.l0 k a1 0 t491 (t491.length : Int) 0)) else (some (0, false)))
theorem spec_ClosestSum.calls (k : Nat) (A0 : Option Addr) (c0 : Nat) (l0 : List Int) (a1 : Int) (r1 : Int) (r2 : Bool) (w : World) (hr0 : Kd.C (Kd.int .i64) w A0 l0.length l0) (hc0 : l0.length ≤ c0) (h : spec_ClosestSum.f k l0 a1 = some (r1, r2)) :
 Calls Try.prog 50 #[.slice A0 l0.length c0, .int .i64 a1] w fun e w' => e = .returned (.tuple #[.int .i64 r1, .bool r2]) ∧ Below w.heap.size w w' := by
 have HR0 := Aside0.mk hr0
 have HC0 := Aside0.mk hc0
 clear hr0 hc0
 have HB := Aside0.mk (Below.refl w.heap.size w)
 have H := h; unfold spec_ClosestSum.f at H
 clear h
 replace H := Option.bind_eq_some_iff.mp H
 obtain ⟨t490, A30, H⟩ := H
 have A3 := Aside0.mk A30
 clear A30
 replace H := Iw H; rcases H with ⟨rfl, H⟩ | ⟨rfl, H⟩
 · replace H := Option.bind_eq_some_iff.mp H
   obtain ⟨t491, A50, H⟩ := H
   have A5 := Aside0.mk A50
   clear A50
   have H' := Aside0.mk H
   clear H
   go_enter Try.func50, Try.ntmps50
   go_wp2_with (first | (refine Gl 11 #[.slice A0 l0.length c0, .int .i64 a1] Try.func85 ?_; (with_reducible refine (spec_piAsked.calls k _ _ l0 a1 true _ (Cm HR0.out) HC0.out A3.out).mono ?_); rintro e w' ⟨rfl, ⟨nd, rfl⟩⟩; refine ⟨_, rfl, ?_⟩) | (refine Gl 14 #[.slice A0 l0.length c0] Try.func72 ?_; (with_reducible refine (spec_piSums.calls k _ _ l0 t491 _ (Cm HR0.out) HC0.out A5.out).mono ?_); rintro e w6 ⟨v492, rfl, ho0, hb⟩; refine ⟨_, rfl, ?_⟩; have HO493 := Aside0.mk (Kd.R_lower ho0 (below_size Ub)); replace HB := Aside0.mk (below_step Ub hb); clear hb ho0; obtain ⟨Ao7, co7, eo7⟩ := Kd.R_slice HO493.out; subst eo7))
   go_loopg [6, 16] k (fun kq v6 v16 w' => ∃ (x6_1 : Int) (x16_1 : Int), v6 = .int .i64 x6_1 ∧ v16 = .int .i64 x16_1 ∧ Aside0 (spec_ClosestSum.l0 kq a1 x6_1 t491 (t491.length : Int) x16_1 = some (r1, r2)) ∧ Aside0 (kq ≤ k) ∧ Aside0 (Kd.R (Kd.int .i64) 3 w' w.heap.size (fun _ => True) (.slice Ao7 t491.length co7) t491) ∧ Aside0 (Below w.heap.size w w'))
   case atStart => exact ⟨(0), (0), Rs, Rs, H', ⟨Nat.le_refl _⟩, ⟨Rm HO493.out⟩, ⟨Ub⟩⟩
   case round =>
    clear H'
    obtain ⟨x6_1, x16_1, rfl, rfl, HA, HK1, HO_14, HB⟩ := hrel
    cases gk with
    | zero => exact absurd HA.out (by simp [spec_ClosestSum.l0])
    | succ k1 =>
     have H := HA.out
     clear HA
     simp only [spec_ClosestSum.l0] at H
     replace H := Ic H; rcases H with ⟨c8, H⟩ | ⟨c8, H⟩
     · have c8b0 := decide_eq_true c8
       clear c8
       replace H := Ip H; obtain ⟨c9, H⟩ := H
       have c9b0 := decide_eq_true c9
       clear c9
       replace H := Ip H; obtain ⟨c10, H⟩ := H
       have c10b0 := decide_eq_true c10
       clear c10
       replace H := Option.bind_eq_some_iff.mp H
       obtain ⟨t495, A110, H⟩ := H
       have A11 := Aside0.mk A110
       clear A110
       replace H := Option.bind_eq_some_iff.mp H
       obtain ⟨t496, A120, H⟩ := H
       have A12 := Aside0.mk A120
       clear A120
       replace H := Ic H; rcases H with ⟨c13, H⟩ | ⟨c13, H⟩
       · have c13b0 := decide_eq_true c13
         clear c13
         have H' := Aside0.mk H
         clear H
         obtain ⟨p494, q494, ad494, e494, hx494_0⟩ := Ai (Kd.R_reads' HO_14.out).2.2 x16_1
         cases e494
         go_wp2_with (first | (refine Gl 23 #[.int .i64 (wrap64 ((rd t491 x16_1) - a1))] Try.func88 ?_; (with_reducible refine (spec_l1Abs.calls (wrap64 ((rd t491 x16_1) - a1)) t495 _ A11.out).mono ?_); rintro e w' ⟨rfl, ⟨nd, rfl⟩⟩; refine ⟨_, rfl, ?_⟩) | (refine Gl 27 #[.int .i64 (wrap64 (x6_1 - a1))] Try.func88 ?_; (with_reducible refine (spec_l1Abs.calls (wrap64 (x6_1 - a1)) t496 _ A12.out).mono ?_); rintro e w' ⟨rfl, ⟨nd, rfl⟩⟩; refine ⟨_, rfl, ?_⟩))
         go_roundg k1
         case measure => have := HK1.out; omega
         case rel => exact ⟨(rd t491 x16_1), (wrap64 (x16_1 + 1)), Rs, Rs, H', ⟨by have := HK1.out; omega⟩, ⟨Rm HO_14.out⟩, ⟨Ub⟩⟩
       have c13b0 := decide_eq_false c13
       clear c13
       have H' := Aside0.mk H
       clear H
       obtain ⟨p494, q494, ad494, e494, hx494_0⟩ := Ai (Kd.R_reads' HO_14.out).2.2 x16_1
       cases e494
       go_wp2_with (first | (refine Gl 23 #[.int .i64 (wrap64 ((rd t491 x16_1) - a1))] Try.func88 ?_; (with_reducible refine (spec_l1Abs.calls (wrap64 ((rd t491 x16_1) - a1)) t495 _ A11.out).mono ?_); rintro e w' ⟨rfl, ⟨nd, rfl⟩⟩; refine ⟨_, rfl, ?_⟩) | (refine Gl 27 #[.int .i64 (wrap64 (x6_1 - a1))] Try.func88 ?_; (with_reducible refine (spec_l1Abs.calls (wrap64 (x6_1 - a1)) t496 _ A12.out).mono ?_); rintro e w' ⟨rfl, ⟨nd, rfl⟩⟩; refine ⟨_, rfl, ?_⟩))
       go_roundg k1
       case measure => have := HK1.out; omega
       case rel => exact ⟨(x6_1), (wrap64 (x16_1 + 1)), Rs, Rs, H', ⟨by have := HK1.out; omega⟩, ⟨Rm HO_14.out⟩, ⟨Ub⟩⟩
     have c8b0 := decide_eq_false c8
     clear c8
     simp only [Option.some.injEq, Prod.mk.injEq] at H
     obtain ⟨rfl, rfl⟩ := H
     go_wp2
     go_ret2
     exact ⟨Re, Ub⟩
 simp only [Option.some.injEq, Prod.mk.injEq] at H
 obtain ⟨rfl, rfl⟩ := H
 go_enter Try.func50, Try.ntmps50
 go_wp2_with (first | (refine Gl 11 #[.slice A0 l0.length c0, .int .i64 a1] Try.func85 ?_; (with_reducible refine (spec_piAsked.calls k _ _ l0 a1 false _ (Cm HR0.out) HC0.out A3.out).mono ?_); rintro e w' ⟨rfl, ⟨nd, rfl⟩⟩; refine ⟨_, rfl, ?_⟩))
 go_ret2
 exact ⟨Re, Ub⟩

end Go.Proofs.Ytkbllhlmcfjcdaa.PFnSumsMade
