-- MADE FOR THIS CLAIM by wip/xp/xprint.py (with the kit's print; some functions' contracts proved by hand)
import Derived.Test.YtkbllhlmcfjcdaaPFnSumsMadex0
import Derived.Test.YtkbllhlmcfjcdaaPFnSumsMadex2
import Derived.Test.YtkbllhlmcfjcdaaPFnSumsMadex5
import Derived.Test.YtkbllhlmcfjcdaaPFnSumsMadex9
import Derived.Test.YtkbllhlmcfjcdaaPFnSumsMadex10
set_option maxHeartbeats 8000000
set_option maxRecDepth 100000
namespace Go.Proofs.Ytkbllhlmcfjcdaa.PFnSumsMade
open Go.RowKit Go.Proofs.YtkbllhlmcfjcdaaW.PrintWords Go.Proofs.YtkbllhlmcfjcdaaW.PrintLast Go.Proofs.YtkbllhlmcfjcdaaW.PrintMore Go.Proofs.Ytkbllhlmcfjcdaa.Xmv
attribute [local go_sem] max2_int min2_int max_two min_two max_three min_three max_four min_four   -- for this text's walks alone
set_option linter.unusedVariables false
set_option linter.unusedSimpArgs false

/-! ### spec_FewestFor: function 48 -/
mutual
def spec_FewestFor.j0 : Nat → List Int → Int → Bool → Option (Int × Bool)
 | 0, _, _, _ => none
 | k + 1, x0, x1, x20 => if x20 = true then (some (0, false)) else ((spec_piSum.f k x0).bind fun t472 => (if 0 ≤ (wrap64 (t472 + 1)) then (if (wrap64 (t472 + 1) : Int).toNat ≤ 35184372088832 then ((some (List.replicate (wrap64 (t472 + 1) : Int).toNat 0 : List Int)).bind fun y473 => (spec_FewestFor.l0 k x0 x1 y473 (y473.length : Int) 0)) else (none)) else (none)))
def spec_FewestFor.l0 : Nat → List Int → Int → List Int → Int → Int → Option (Int × Bool)
 | 0, _, _, _, _, _ => none
 | k + 1, x0, x1, x6, x26, x27 => if x27 < x26 then (if 0 ≤ x27 then (if x27 < (x6.length : Int) then (spec_FewestFor.l0 k x0 x1 (x6.set (x27 : Int).toNat (wrap64 ((x0.length : Int) + 1))) x26 (wrap64 (x27 + 1))) else (none)) else (none)) else (if 0 < (x6.length : Int) then (spec_FewestFor.l1 k x1 (x6.set (0 : Int).toNat 0) x0 (x0.length : Int) 0) else (none))
def spec_FewestFor.l1 : Nat → Int → List Int → List Int → Int → Int → Option (Int × Bool)
 | 0, _, _, _, _, _ => none
 | k + 1, x1, x6, x39, x40, x41 => if x41 < x40 then (if 0 ≤ x41 then (if x41 < (x39.length : Int) then (spec_FewestFor.l2 k x1 x6 (rd x39 x41) (wrap64 ((x6.length : Int) - 1)) x39 x40 x41) else (none)) else (none)) else (if 0 ≤ x1 then (if x1 < (x6.length : Int) then (some (rd x6 x1, true)) else (none)) else (none))
def spec_FewestFor.l2 : Nat → Int → List Int → Int → Int → List Int → Int → Int → Option (Int × Bool)
 | 0, _, _, _, _, _, _, _ => none
 | k + 1, x1, x6, x9, x10, x39, x40, x41 => if x10 ≥ x9 then (if 0 ≤ x10 then (if x10 < (x6.length : Int) then (if 0 ≤ (wrap64 (x10 - x9)) then (if (wrap64 (x10 - x9)) < (x6.length : Int) then ((spec_l1Least.f (rd x6 x10) (wrap64 ((rd x6 (wrap64 (x10 - x9))) + 1))).bind fun t482 => (spec_FewestFor.l2 k x1 (x6.set (x10 : Int).toNat t482) x9 (wrap64 (x10 - 1)) x39 x40 x41)) else (none)) else (none)) else (none)) else (none)) else (spec_FewestFor.l1 k x1 x6 x39 x40 (wrap64 (x41 + 1)))
end
def spec_FewestFor.f (k : Nat) (l0 : List Int) (a1 : Int) : Option (Int × Bool) := (spec_piAsked.f k l0 a1).bind fun t470 => (if t470 = true then ((spec_piMake.f k l0 a1).bind fun t471 => (spec_FewestFor.j0 k l0 a1 (t471 == 0))) else (spec_FewestFor.j0 k l0 a1 true))
def spec_FewestFor.T16 : Bool × List (List Nat × List Nat) := (true, [([], []), ([], []), ([], []), ([], []), ([2, 3], [2, 3]), ([4], [4]), ([], []), ([], []), ([], []), ([7, 8], [7, 8]), ([6, 9], [6, 9]), ([10], [10]), ([11], [11]), ([5, 12], [5, 12]), ([0, 1, 0, 1, 2, 3, 4, 5, 6, 7, 8, 9, 10, 11, 12, 13], [0, 1]), ([14, 13, 13, 0, 1, 2, 3, 4, 5, 6, 7, 8, 9, 10, 11, 12, 13], [13, 14])])
def spec_FewestFor.B16 : List Nat := [0, 0, 0, 0, 12, 28, 0, 0, 0, 384, 960, 1984, 4032, 8188, 16383, 32767]
theorem spec_FewestFor.tab16 : rtab .any (opsOf Try.f48 16) = spec_FewestFor.T16 := by kernel_rfl
theorem spec_FewestFor.bits16 : waitsOk spec_FewestFor.T16.2 spec_FewestFor.B16 = true := by kernel_rfl
theorem spec_FewestFor.calls (k : Nat) (A0 : Option Addr) (c0 : Nat) (l0 : List Int) (a1 : Int) (r1 : Int) (r2 : Bool) (w : World) (hr0 : Kd.C (Kd.int .i64) w A0 l0.length l0) (hc0 : l0.length ≤ c0) (h : spec_FewestFor.f k l0 a1 = some (r1, r2)) :
 Calls Try.prog 48 #[.slice A0 l0.length c0, .int .i64 a1] w fun e w' => e = .returned (.tuple #[.int .i64 r1, .bool r2]) ∧ Below w.heap.size w w' := by
 have HR0 := Aside0.mk hr0
 have HC0 := Aside0.mk hc0
 clear hr0 hc0
 have HB := Aside0.mk (Below.refl w.heap.size w)
 have H := h; unfold spec_FewestFor.f at H
 clear h
 have HC3 := Aside0.mk H
 clear H
 go_enter Try.func48, Try.ntmps48
 go_upto_region 1 with (fail)
 go_cut [20] (fun v20 wc => ∃ (kq : Nat) (x20_2 : Bool), v20 = .bool x20_2 ∧ Aside0 (spec_FewestFor.j0 kq l0 a1 x20_2 = some (r1, r2)) ∧ Aside0 (kq ≤ k) ∧ Aside0 (Below w.heap.size w wc))
 case first =>
  have H := HC3.out
  clear HC3
  replace H := Option.bind_eq_some_iff.mp H
  obtain ⟨t470, A40, H⟩ := H
  have A4 := Aside0.mk A40
  clear A40
  replace H := Iw H; rcases H with ⟨rfl, H⟩ | ⟨rfl, H⟩
  · replace H := Option.bind_eq_some_iff.mp H
    obtain ⟨t471, A60, H⟩ := H
    have A6 := Aside0.mk A60
    clear A60
    have H' := Aside0.mk H
    clear H
    go_wp2_with (first | (refine Gl 13 #[.slice A0 l0.length c0, .int .i64 a1] Try.func85 ?_; (with_reducible refine (spec_piAsked.calls k _ _ l0 a1 true _ (Cm (Kd.C_below HR0.out HB.out)) HC0.out A4.out).mono ?_); rintro e w' ⟨rfl, ⟨nd, rfl⟩⟩; refine ⟨_, rfl, ?_⟩) | (go_at_call 80; (with_reducible refine (spec_piMake.calls k _ _ l0 a1 t471 _ (Cm (Kd.C_below HR0.out Ub)) HC0.out A6.out).mono ?_); rintro e w7 ⟨rfl, hb⟩; replace HB := Aside0.mk (below_step Ub hb); clear hb))
    go_meet
    case rel => exact ⟨_, ((t471 == 0)), Rs, H', ⟨by first | omega | exact Nat.le_refl _⟩, ⟨Ub⟩⟩
  have H' := Aside0.mk H
  clear H
  go_wp2_with (first | (refine Gl 13 #[.slice A0 l0.length c0, .int .i64 a1] Try.func85 ?_; (with_reducible refine (spec_piAsked.calls k _ _ l0 a1 false _ (Cm (Kd.C_below HR0.out HB.out)) HC0.out A4.out).mono ?_); rintro e w' ⟨rfl, ⟨nd, rfl⟩⟩; refine ⟨_, rfl, ?_⟩))
  go_meet
  case rel => exact ⟨_, (true), Rs, H', ⟨by first | omega | exact Nat.le_refl _⟩, ⟨Ub⟩⟩
 case rest =>
  clear HC3
  obtain ⟨kq, x20_2, rfl, HA, HJ2, HB⟩ := hcut
  cases kq with
  | zero => exact absurd HA.out (by simp [spec_FewestFor.j0])
  | succ kj2 =>
   have H := HA.out
   clear HA
   simp only [spec_FewestFor.j0] at H
   by_cases c8 : x20_2 = true
   · subst c8
     have H1 : (some (0, false)) = some (r1, r2) := by rw [if_pos rfl] at H; exact H
     clear H
     have H := H1
     clear H1
     simp only [Option.some.injEq, Prod.mk.injEq] at H
     obtain ⟨rfl, rfl⟩ := H
     go_wp2
     go_ret2
     exact ⟨Re, Ub⟩
   replace c8 := Bool.eq_false_iff.mpr c8
   subst c8
   have H1 : ((spec_piSum.f kj2 l0).bind fun t472 => (if 0 ≤ (wrap64 (t472 + 1)) then (if (wrap64 (t472 + 1) : Int).toNat ≤ 35184372088832 then ((some (List.replicate (wrap64 (t472 + 1) : Int).toNat 0 : List Int)).bind fun y473 => (spec_FewestFor.l0 kj2 l0 a1 y473 (y473.length : Int) 0)) else (none)) else (none))) = some (r1, r2) := by rw [if_neg (show ¬ (false = true) by decide)] at H; exact H
   clear H
   have H := H1
   clear H1
   replace H := Option.bind_eq_some_iff.mp H
   obtain ⟨t472, A90, H⟩ := H
   have A9 := Aside0.mk A90
   clear A90
   obtain ⟨ji10, hji10⟩ : ∃ j_ : Int, (wrap64 (t472 + 1)) = j_ := ⟨_, rfl⟩
   replace H : (if 0 ≤ (ji10) then (if (ji10 : Int).toNat ≤ 35184372088832 then ((some (List.replicate (ji10 : Int).toNat 0 : List Int)).bind fun y473 => (spec_FewestFor.l0 kj2 l0 a1 y473 (y473.length : Int) 0)) else (none)) else (none)) = some (r1, r2) := by first | (rw [hji10] at H; exact H) | (simp only [hji10] at H ⊢; exact H)
   (try rw [hji10] at A9)
   have hji10w : (IntKind.i64.wrap (t472 + 1)) = ji10 := (i64_w _).trans hji10
   replace H := Ic H; rcases H with ⟨c11, H⟩ | ⟨c11, H⟩
   · have c11b0 := eq_true c11
     have c11b1 := decide_eq_true c11
     clear c11
     replace H := Ip H; obtain ⟨c12, H⟩ := H
     have c12b0 := eq_true c12
     have c12b1 := decide_eq_true c12
     clear c12
     obtain ⟨y473, hy473⟩ : ∃ y_ : List Int, y_ = (List.replicate (ji10 : Int).toNat 0) := ⟨_, rfl⟩
     replace H : (spec_FewestFor.l0 kj2 l0 a1 y473 (y473.length : Int) 0) = some (r1, r2) := by first | (rw [hy473]; with_reducible exact H) | (have H2_ := (Option.bind_some _ _).symm.trans H; rw [hy473]; with_reducible exact H2_) | (have H2_ := (Option.bind_some _ _).symm.trans H; with_reducible exact H2_) | with_reducible exact H | (rw [hy473]; exact H) | exact H
     have Ny473 := Aside0.mk hy473
     clear hy473
     have H' := Aside0.mk H
     clear H
     go_wp2_with (first | (refine Gl 22 #[.slice A0 l0.length c0] Try.func78 ?_; (with_reducible refine (spec_piSum.calls kj2 _ _ l0 t472 _ (Cm (Kd.C_below HR0.out HB.out)) HC0.out A9.out).mono ?_); rintro e w' ⟨rfl, ⟨nd, rfl⟩⟩; refine ⟨_, rfl, ?_⟩) | ((with_reducible refine gate_dst (N := 24) rfl ?_); refine Kd.R_make (Kd.int .i64) _ 3 rfl (N := 24) rfl 24 _ _ rfl ji10 rfl rfl Try.underlying24 (.int .i64 0) 8 info3 rfl (by decide) (by omega) 0 (ok := fun _ => True) (okp := fun _ => True) rfl (fun _ hk => hk) trivial (Oa) (Nat.le_trans (Nat.mul_le_mul_right _ (Oa : ji10.toNat ≤ 35184372088832)) (by omega)) (Below.refl _ _) (Nat.le_refl _) ?_; intro v474 w13 ho14 hb hg_ hnew_; clear hg_ hnew_; (first | rw [← Ny473.out] at ho14 | (simp only [Int.reduceToNat] at ho14; rw [← Ny473.out] at ho14)); have HO475 := Aside0.mk (Kd.R_lower ho14 (below_size Ub)); replace HB := Aside0.mk (below_step Ub hb); clear hb ho14; obtain ⟨Ao15, co15, eo15⟩ := Kd.R_slice HO475.out; subst eo15))
     go_loopg [27] kj2 (fun kq v27 w' => ∃ (x6_2 : List Int) (x27_2 : Int), v27 = .int .i64 x27_2 ∧ Aside0 (spec_FewestFor.l0 kq l0 a1 x6_2 (y473.length : Int) x27_2 = some (r1, r2)) ∧ Aside0 (kq ≤ kj2) ∧ Aside0 (Kd.R (Kd.int .i64) 3 w' w.heap.size (fun _ => True) (.slice Ao15 y473.length co15) x6_2) ∧ Aside0 (Below w.heap.size w w'))
     case atStart => exact ⟨(y473), (0), Rs, H', ⟨Nat.le_refl _⟩, ⟨Rm HO475.out⟩, ⟨Ub⟩⟩
     case round =>
      clear H'
      try clear c8
      try clear c11
      try clear c11b0
      try clear c11b1
      try clear c12
      try clear c12b0
      try clear c12b1
      obtain ⟨x6_2, x27_2, rfl, HA, HK2, HO_6, HB⟩ := hrel
      have hl6_2 := (Kd.R_reads' HO_6.out).1
      rw [hl6_2] at HO_6
      (try simp only [hl6_2])
      cases gk with
      | zero => exact absurd HA.out (by simp [spec_FewestFor.l0])
      | succ k2 =>
       have H := HA.out
       clear HA
       simp only [spec_FewestFor.l0] at H
       replace H := Ic H; rcases H with ⟨c16, H⟩ | ⟨c16, H⟩
       · have c16b0 := decide_eq_true c16
         clear c16
         replace H := Ip H; obtain ⟨c17, H⟩ := H
         have c17b0 := decide_eq_true c17
         clear c17
         replace H := Ip H; obtain ⟨c18, H⟩ := H
         have c18b0 := decide_eq_true c18
         clear c18
         obtain ⟨y476, hy476⟩ : ∃ y_ : List Int, y_ = (x6_2.set (x27_2 : Int).toNat (wrap64 ((l0.length : Int) + 1))) := ⟨_, rfl⟩
         replace H : (spec_FewestFor.l0 k2 l0 a1 y476 (y473.length : Int) (wrap64 (x27_2 + 1))) = some (r1, r2) := by first | (rw [hy476]; with_reducible exact H) | (have H2_ := (Option.bind_some _ _).symm.trans H; rw [hy476]; with_reducible exact H2_) | (have H2_ := (Option.bind_some _ _).symm.trans H; with_reducible exact H2_) | with_reducible exact H | (rw [hy476]; exact H) | exact H
         have Ny476 := Aside0.mk hy476
         clear hy476
         have H' := Aside0.mk H
         clear H
         have p19 : 0 ≤ (x27_2 : Int) := Oa
         have q19 : (x27_2 : Int) < ((x6_2.length : Int) : Int) := Oa
         obtain ⟨go19, co19, eo19, gb19, gl19, cl19, HG19⟩ := Kd.R_form HO_6.out (by omega)
         (first | cases eo19 | (injection eo19 with ea_ en_ ec_; (first | subst ea_ | (injection ea_ with ea_; subst ea_)); subst ec_; clear en_))
         have GB19 := Aside0.mk gb19
         have GG19 := Aside0.mk HG19
         clear gb19 gl19 HG19
         obtain ⟨hx19_0, hf19_0⟩ := Kd.R_celln 0 HO_6.out (x27_2 : Int) p19 q19
         replace p19 := eq_true p19
         replace q19 := eq_true q19
         have HP20 := Kd.R_putg HO_6.out (x27_2 : Int) (wrap64 ((l0.length : Int) + 1))
         go_wp2_with (first | ((with_reducible refine gate_store (t := 3) (p := 35) rfl ?_); refine store_event (t := 3) (p := 35) (v := ?vo_w21) (w1 := (wr.setCell ⟨go19, (x27_2 : Int).toNat, none⟩ (.int .i64 (wrap64 ((l0.length : Int) + 1))))) ?hg ?ho ?hn ?hr ?_; (case ho => rfl); (case hg => rfl); (case hn => rfl); (case hr => first | (go_simp; done) | (go_simp; rfl)); intro w21 hw; have hg : wr.grownBy w21 (some go19) := (by rw [hw]; exact HP20.2); have hp_ : Kd.R (Kd.int .i64) 3 w21 w.heap.size (fun _ => True) (.slice (some ⟨go19, 0, none⟩) x6_2.length co15) y476 := (by rw [hw, Ny476.out]; exact HP20.1); clear HP20; replace HO_6 := Aside0.mk (hp_); replace HB := Aside0.mk ((by rw [hw]; exact below_set (HB.out) GB19.out : Below w.heap.size w w21)); clear hg hw hp_))
         (try simp only [← hl6_2])
         go_roundg k2
         case measure => have := HJ2.out; have := HK2.out; omega
         case rel => exact ⟨(y476), (wrap64 (x27_2 + 1)), Rs, H', ⟨by have := HJ2.out; have := HK2.out; omega⟩, ⟨by (try simp only [hl6_2]); (with_reducible repeat (first | apply Kd.R_alloc | apply Kd.R_drewN | apply Kd.R_drew)); exact HO_6.out⟩, ⟨Ub⟩⟩
       have c16b0 := decide_eq_false c16
       (try rw [hl6_2] at c16b0)
       clear c16
       replace H := Ip H; obtain ⟨c22, H⟩ := H
       have c22b0 := decide_eq_true c22
       have c22b1 : decide (0 < x6_2.length) = true := decide_eq_true (by omega)
       clear c22
       obtain ⟨y477, hy477⟩ : ∃ y_ : List Int, y_ = (x6_2.set (0 : Int).toNat 0) := ⟨_, rfl⟩
       replace H : (spec_FewestFor.l1 k2 a1 y477 l0 (l0.length : Int) 0) = some (r1, r2) := by first | (rw [hy477]; with_reducible exact H) | (have H2_ := (Option.bind_some _ _).symm.trans H; rw [hy477]; with_reducible exact H2_) | (have H2_ := (Option.bind_some _ _).symm.trans H; with_reducible exact H2_) | with_reducible exact H | (rw [hy477]; exact H) | exact H
       have Ny477 := Aside0.mk hy477
       clear hy477
       have H' := Aside0.mk H
       clear H
       have p23 : 0 ≤ (0 : Int) := (by omega)
       have q23 : (0 : Int) < ((x6_2.length : Int) : Int) := Oa
       have qi23 : (0 < x6_2.length) = True := eq_true (by omega)
       obtain ⟨go23, co23, eo23, gb23, gl23, cl23, HG23⟩ := Kd.R_form HO_6.out (by omega)
       (first | cases eo23 | (injection eo23 with ea_ en_ ec_; (first | subst ea_ | (injection ea_ with ea_; subst ea_)); subst ec_; clear en_))
       have GB23 := Aside0.mk gb23
       have GG23 := Aside0.mk HG23
       clear gb23 gl23 HG23
       obtain ⟨hx23_0, hf23_0⟩ := Kd.R_celln 0 HO_6.out (0 : Int) p23 q23
       (try rw [show ((0 : Int)).toNat = 0 from rfl] at hx23_0)
       (try simp only [Nat.reduceMul, Nat.zero_mul, Nat.zero_add, Nat.reduceAdd] at hx23_0)
       (try rw [show ((0 : Int)).toNat = 0 from rfl] at hf23_0)
       (try simp only [Nat.reduceMul, Nat.zero_mul, Nat.zero_add, Nat.reduceAdd] at hf23_0)
       replace p23 := eq_true p23
       replace q23 := eq_true q23
       have HP24 := Kd.R_putg HO_6.out (0 : Int) 0
       go_wp2_with (first | ((with_reducible refine gate_store (t := 3) (p := 38) rfl ?_); refine store_event (t := 3) (p := 38) (v := ?vo_w25) (w1 := (wr.setCell ⟨go23, (0 : Int).toNat, none⟩ (.int .i64 0))) ?hg ?ho ?hn ?hr ?_; (case ho => rfl); (case hg => rfl); (case hn => rfl); (case hr => first | (go_simp; done) | (go_simp; rfl)); intro w25 hw; have hg : wr.grownBy w25 (some go23) := (by rw [hw]; exact HP24.2); have hp_ : Kd.R (Kd.int .i64) 3 w25 w.heap.size (fun _ => True) (.slice (some ⟨go23, 0, none⟩) x6_2.length co15) y477 := (by rw [hw, Ny477.out]; exact HP24.1); clear HP24; replace HO_6 := Aside0.mk (hp_); replace HB := Aside0.mk ((by rw [hw]; exact below_set (HB.out) GB23.out : Below w.heap.size w w25)); clear hg hw hp_))
       go_loopg [41] k2 (fun kq v41 w' => ∃ (x6_3 : List Int) (x41_3 : Int), v41 = .int .i64 x41_3 ∧ Aside0 (spec_FewestFor.l1 kq a1 x6_3 l0 (l0.length : Int) x41_3 = some (r1, r2)) ∧ Aside0 (kq ≤ k2) ∧ Aside0 (Kd.R (Kd.int .i64) 3 w' w.heap.size (fun _ => True) (.slice (some ⟨go23, 0, none⟩) x6_2.length co15) x6_3) ∧ Aside0 (Below w.heap.size w w'))
       case atStart => exact ⟨(y477), (0), Rs, H', ⟨Nat.le_refl _⟩, ⟨by (try simp only [hl6_2]); (with_reducible repeat (first | apply Kd.R_alloc | apply Kd.R_drewN | apply Kd.R_drew)); exact HO_6.out⟩, ⟨Ub⟩⟩
       case round =>
        clear H'
        try clear c8
        try clear c11
        try clear c11b0
        try clear c11b1
        try clear c12
        try clear c12b0
        try clear c12b1
        try clear c16
        try clear c16b0
        try clear c17
        try clear c17b0
        try clear c18
        try clear c18b0
        try clear p19
        try clear q19
        try clear c22
        try clear c22b0
        try clear c22b1
        try clear p23
        try clear q23
        try clear qi23
        try clear hx19_0
        try clear hx23_0
        try clear p19
        try clear p23
        try clear q19
        try clear q23
        obtain ⟨x6_3, x41_3, rfl, HA, HK3, HO_6, HB⟩ := hrel
        have hl6_3 := (Kd.R_reads' HO_6.out).1
        rw [hl6_3] at HO_6
        (try simp only [hl6_3])
        cases gk with
        | zero => exact absurd HA.out (by simp [spec_FewestFor.l1])
        | succ k3 =>
         have H := HA.out
         clear HA
         simp only [spec_FewestFor.l1] at H
         replace H := Ic H; rcases H with ⟨c26, H⟩ | ⟨c26, H⟩
         · have c26b0 := decide_eq_true c26
           clear c26
           replace H := Ip H; obtain ⟨c27, H⟩ := H
           have c27b0 := decide_eq_true c27
           clear c27
           replace H := Ip H; obtain ⟨c28, H⟩ := H
           have c28b0 := decide_eq_true c28
           clear c28
           have H' := Aside0.mk H
           clear H
           obtain ⟨p479, q479, ad479, e479, hx479_0⟩ := Ai HR0.out x41_3
           cases e479
           replace hx479_0 := (HB.out.cell (World.block_lt_of_cell? w _ hx479_0)).trans hx479_0
           go_wp2
           go_loopg [10] k3 (fun kq v10 w' => ∃ (x6_4 : List Int) (x10_4 : Int), v10 = .int .i64 x10_4 ∧ Aside0 (spec_FewestFor.l2 kq a1 x6_4 (rd l0 x41_3) x10_4 l0 (l0.length : Int) x41_3 = some (r1, r2)) ∧ Aside0 (kq ≤ k3) ∧ Aside0 (Kd.R (Kd.int .i64) 3 w' w.heap.size (fun _ => True) (.slice (some ⟨go23, 0, none⟩) x6_3.length co15) x6_4) ∧ Aside0 (Below w.heap.size w w'))
           case atStart => exact ⟨(x6_3), (wrap64 ((x6_3.length : Int) - 1)), Rs, H', ⟨Nat.le_refl _⟩, ⟨by (try simp only [hl6_2]); (try simp only [hl6_3]); (with_reducible repeat (first | apply Kd.R_alloc | apply Kd.R_drewN | apply Kd.R_drew)); exact HO_6.out⟩, ⟨Ub⟩⟩
           case round =>
            clear H'
            try clear c8
            try clear c11
            try clear c11b0
            try clear c11b1
            try clear c12
            try clear c12b0
            try clear c12b1
            try clear c16
            try clear c16b0
            try clear c17
            try clear c17b0
            try clear c18
            try clear c18b0
            try clear p19
            try clear q19
            try clear c22
            try clear c22b0
            try clear c22b1
            try clear p23
            try clear q23
            try clear qi23
            try clear c26
            try clear c26b0
            try clear c27
            try clear c27b0
            try clear c28
            try clear c28b0
            try clear hx19_0
            try clear hx23_0
            try clear hx479_0
            try clear p19
            try clear p23
            try clear p479
            try clear q19
            try clear q23
            try clear q479
            obtain ⟨x6_4, x10_4, rfl, HA, HK4, HO_6, HB⟩ := hrel
            have hl6_4 := (Kd.R_reads' HO_6.out).1
            rw [hl6_4] at HO_6
            (try simp only [hl6_4])
            cases gk with
            | zero => exact absurd HA.out (by simp [spec_FewestFor.l2])
            | succ k4 =>
             have H := HA.out
             clear HA
             simp only [spec_FewestFor.l2] at H
             replace H := Ic H; rcases H with ⟨c29, H⟩ | ⟨c29, H⟩
             · have c29b0 : decide ((rd l0 x41_3) ≤ x10_4) = true := decide_eq_true c29
               clear c29
               replace H := Ip H; obtain ⟨c30, H⟩ := H
               have c30b0 := decide_eq_true c30
               clear c30
               replace H := Ip H; obtain ⟨c31, H⟩ := H
               have c31b0 := decide_eq_true c31
               clear c31
               obtain ⟨ji32, hji32⟩ : ∃ j_ : Int, (wrap64 (x10_4 - (rd l0 x41_3))) = j_ := ⟨_, rfl⟩
               replace H : (if 0 ≤ (ji32) then (if (ji32) < (x6_4.length : Int) then ((spec_l1Least.f (rd x6_4 x10_4) (wrap64 ((rd x6_4 (ji32)) + 1))).bind fun t482 => (spec_FewestFor.l2 k4 a1 (x6_4.set (x10_4 : Int).toNat t482) (rd l0 x41_3) (wrap64 (x10_4 - 1)) l0 (l0.length : Int) x41_3)) else (none)) else (none)) = some (r1, r2) := by first | (rw [hji32] at H; exact H) | (simp only [hji32] at H ⊢; exact H)
               have hji32w : (IntKind.i64.wrap (x10_4 - (rd l0 x41_3))) = ji32 := (i64_w _).trans hji32
               replace H := Ip H; obtain ⟨c33, H⟩ := H
               have c33b0 := decide_eq_true c33
               clear c33
               replace H := Ip H; obtain ⟨c34, H⟩ := H
               have c34b0 := decide_eq_true c34
               clear c34
               replace H := Option.bind_eq_some_iff.mp H
               obtain ⟨t482, A350, H⟩ := H
               have A35 := Aside0.mk A350
               clear A350
               obtain ⟨y483, hy483⟩ : ∃ y_ : List Int, y_ = (x6_4.set (x10_4 : Int).toNat t482) := ⟨_, rfl⟩
               replace H : (spec_FewestFor.l2 k4 a1 y483 (rd l0 x41_3) (wrap64 (x10_4 - 1)) l0 (l0.length : Int) x41_3) = some (r1, r2) := by first | (rw [hy483]; with_reducible exact H) | (have H2_ := (Option.bind_some _ _).symm.trans H; rw [hy483]; with_reducible exact H2_) | (have H2_ := (Option.bind_some _ _).symm.trans H; with_reducible exact H2_) | with_reducible exact H | (rw [hy483]; exact H) | exact H
               have Ny483 := Aside0.mk hy483
               clear hy483
               have H' := Aside0.mk H
               clear H
               try go_wp2
               replace HO_6 := Aside0.mk (Kd.R_drew HO_6.out); replace HB := Aside0.mk (below_drew1 HB.out)
               have p480 : 0 ≤ (x10_4 : Int) := Oa
               have q480 : x10_4 < (x6_4.length : Int) := Oa
               obtain ⟨ad480, e480, hx480_0⟩ := Kd.at_int (Kd.R_reads' HO_6.out).2.2 x10_4 p480 q480
               obtain rfl : (⟨go23, 0, none⟩ : Addr) = ad480 := (by injection e480)
               (first | simp only [add_plain] at hx480_0 | simp only [add_at] at hx480_0 | simp only [Addr.add, Nat.zero_add] at hx480_0 | skip)
               replace p480 := eq_true p480
               replace q480 := eq_true q480
               have p481 : 0 ≤ ((ji32) : Int) := Oa
               have q481 : (ji32) < (x6_4.length : Int) := Oa
               obtain ⟨ad481, e481, hx481_0⟩ := Kd.at_int (Kd.R_reads' HO_6.out).2.2 (ji32) p481 q481
               obtain rfl : (⟨go23, 0, none⟩ : Addr) = ad481 := (by injection e481)
               (first | simp only [add_plain] at hx481_0 | simp only [add_at] at hx481_0 | simp only [Addr.add, Nat.zero_add] at hx481_0 | skip)
               replace p481 := eq_true p481
               replace q481 := eq_true q481
               refine start_ (n := 16) (S := fun w' => w'.cell? ⟨go23, (x10_4).toNat, none⟩ = some (.int .i64 (rd x6_4 x10_4)) ∧ w'.cell? ⟨go23, ((ji32)).toNat, none⟩ = some (.int .i64 (rd x6_4 (ji32)))) (ds := [15]) #[false, false, false, false, false, false, false, false, false, false, false, false, false, false, false, false] (by kernel_rfl) rfl rfl ⟨hx480_0, hx481_0⟩ (fun hHeld => ?_); refine with_tabW spec_FewestFor.tab16 spec_FewestFor.bits16 (fun HT_ HW_ => ?_)
               generalize wr.drew = w37 at HO_6 HB hx480_0 hx481_0 hHeld ⊢
               refine Pu 0 53 #[true, false, false, false, false, false, false, false, false, false, false, false, false, false, false, false] HT_.out ?_
               refine Pu 1 54 #[true, true, false, false, false, false, false, false, false, false, false, false, false, false, false, false] HT_.out ?_
               refine Pu 2 55 #[true, true, true, false, false, false, false, false, false, false, false, false, false, false, false, false] HT_.out ?_
               refine Pu 3 56 #[true, true, true, true, false, false, false, false, false, false, false, false, false, false, false, false] HT_.out ?_
               refine Pu 4 57 #[true, true, true, true, true, false, false, false, false, false, false, false, false, false, false, false] HT_.out ?_
               refine Pu 6 59 #[true, true, true, true, true, false, true, false, false, false, false, false, false, false, false, false] HT_.out ?_
               refine Pu 7 60 #[true, true, true, true, true, false, true, true, false, false, false, false, false, false, false, false] HT_.out ?_
               refine Pu 8 61 #[true, true, true, true, true, false, true, true, true, false, false, false, false, false, false, false] HT_.out ?_
               refine Pu 9 62 #[true, true, true, true, true, false, true, true, true, true, false, false, false, false, false, false] HT_.out ?_
               refine Pu 10 63 #[true, true, true, true, true, false, true, true, true, true, true, false, false, false, false, false] HT_.out ?_
               refine take_ (i := 5) (N := some 58) (v := ?_) (a' := ?_) #[true, true, true, true, true, true, true, true, true, true, true, false, false, false, false, false] rfl rfl (take_ofW HT_.out HW_.out (by kernel_rfl)) (fun _ _ _ h => h) (Or.inl ⟨by rfl, ?_⟩) hHeld ?_ ?_
               rotate_left
               · rintro w' ⟨s0, s1⟩
                 go_simp
                 with_reducible rfl
               rotate_left
               · simp only [Act.put, List.setIfInBounds_toArray, List.set_cons_zero, List.set_cons_succ, i64_w, i32_w]
                 rfl
               refine take_ (i := 11) (N := some 64) (v := ?_) (a' := ?_) #[true, true, true, true, true, true, true, true, true, true, true, true, false, false, false, false] rfl rfl (take_ofW HT_.out HW_.out (by kernel_rfl)) (fun _ _ _ h => h) (Or.inl ⟨by rfl, ?_⟩) hHeld ?_ ?_
               rotate_left
               · rintro w' ⟨s0, s1⟩
                 go_simp
                 with_reducible rfl
               rotate_left
               · simp only [Act.put, List.setIfInBounds_toArray, List.set_cons_zero, List.set_cons_succ, i64_w, i32_w]
                 rfl
               refine Pu 12 65 #[true, true, true, true, true, true, true, true, true, true, true, true, true, false, false, false] HT_.out ?_
               refine one_ (i := 13) (N := some 66) #[true, true, true, true, true, true, true, true, true, true, true, true, true, true, false, false] rfl rfl (one_of HT_.out (by kernel_rfl)) (by decide) (fun K hK => ?_)
               refine goes_ Try.func87 (by kernel_rfl) rfl #[.int .i64 (rd x6_4 x10_4), .int .i64 (wrap64 ((rd x6_4 (ji32)) + 1))] (by rfl) rfl rfl (by (try simp only [List.map_toArray, List.map_cons, List.map_nil]); first | done | (simp only [hji32]; rfl) | rfl | (simp only [List.length_drop, List.length_take]; rfl)) ?_
               with_reducible refine (spec_l1Least.calls (rd x6_4 x10_4) (wrap64 ((rd x6_4 (ji32)) + 1)) t482 _ A35.out).mono ?_
               rintro e w' ⟨rfl, ⟨nd, rfl⟩⟩
               refine ⟨_, rfl, ?_⟩
               have p36 : 0 ≤ (x10_4 : Int) := Oa
               have q36 : (x10_4 : Int) < ((x6_4.length : Int) : Int) := Oa
               obtain ⟨hx36_0, hf36_0⟩ := Kd.R_celln 0 HO_6.out (x10_4 : Int) p36 q36
               replace p36 := eq_true p36
               replace q36 := eq_true q36
               have HP38 := Kd.R_putn HO_6.out (x10_4 : Int) t482
               rw [← Ny483.out] at HP38
               have HQ38 := Aside0.mk HP38
               clear HP38
               refine hK.out _ _ ⟨hHeld.1, hHeld.2⟩ (fun hHeld => ?_)
               clear hK K
               refine norm_ (a' := ?_) ?_ ?_
               rotate_left
               · show Act.put _ (some 66) _ = _
                 simp only [Act.put, List.setIfInBounds_toArray, List.set_cons_zero, List.set_cons_succ, i64_w, i32_w]
                 rfl
               refine Pu 14 67 #[true, true, true, true, true, true, true, true, true, true, true, true, true, true, true, false] HT_.out ?_
               refine last_ (i := 15) (N := none) #[true, true, true, true, true, true, true, true, true, true, true, true, true, true, true, true] rfl rfl (one_of HT_.out (by kernel_rfl)) (by decide) (fun K hK => ?_)
               refine skip_ (w1 := ?_) (by rfl) rfl ?_ ?_
               rotate_left
               · go_simp
                 rfl
               refine hK.out _ _ ?_
               clear hK K
               refine done_ (done_of HT_.out (by kernel_rfl)) ?_
               try go_wp2
               (try simp only [← hl6_4])
               go_roundg k4
               case measure => have := HJ2.out; have := HK2.out; have := HK3.out; have := HK4.out; omega
               case rel => exact ⟨(y483), (wrap64 (x10_4 - 1)), Rs, H', ⟨by have := HJ2.out; have := HK2.out; have := HK3.out; have := HK4.out; omega⟩, ⟨by (try simp only [hl6_2]); (try simp only [hl6_3]); (try simp only [hl6_4]); (with_reducible repeat (first | apply Kd.R_alloc | apply Kd.R_drewN | apply Kd.R_drew)); exact HQ38.out⟩, ⟨by repeat (first | (with_reducible first | exact HB.out | apply below_alloc | apply pw_below_drewN | apply below_drew1 | refine below_set ?_ GB23.out) | exact HB.out)⟩⟩
             have c29b0 : decide ((rd l0 x41_3) ≤ x10_4) = false := decide_eq_false c29
             clear c29
             have H' := Aside0.mk H
             clear H
             go_wp2
             (try simp only [← hl6_3, ← hl6_4])
             go_roundg k4
             case measure => have := HJ2.out; have := HK2.out; have := HK3.out; have := HK4.out; omega
             case rel => exact ⟨(x6_4), (wrap64 (x41_3 + 1)), Rs, H', ⟨by have := HJ2.out; have := HK2.out; have := HK3.out; have := HK4.out; omega⟩, ⟨by (try simp only [hl6_2]); (try simp only [hl6_3]); (try simp only [hl6_4]); (with_reducible repeat (first | apply Kd.R_alloc | apply Kd.R_drewN | apply Kd.R_drew)); exact HO_6.out⟩, ⟨Ub⟩⟩
         have c26b0 := decide_eq_false c26
         (try rw [hl6_4] at c26b0)
         clear c26
         replace H := Ip H; obtain ⟨c39, H⟩ := H
         have c39b0 := decide_eq_true c39
         clear c39
         replace H := Ip H; obtain ⟨c40, H⟩ := H
         have c40b0 := decide_eq_true c40
         clear c40
         simp only [Option.some.injEq, Prod.mk.injEq] at H
         obtain ⟨rfl, rfl⟩ := H
         have p478 : 0 ≤ (a1 : Int) := Oa
         have q478 : a1 < (x6_3.length : Int) := Oa
         obtain ⟨ad478, e478, hx478_0⟩ := Kd.at_int (Kd.R_reads' HO_6.out).2.2 a1 p478 q478
         obtain rfl : (⟨go23, 0, none⟩ : Addr) = ad478 := (by injection e478)
         (first | simp only [add_plain] at hx478_0 | simp only [add_at] at hx478_0 | simp only [Addr.add, Nat.zero_add] at hx478_0 | skip)
         replace p478 := eq_true p478
         replace q478 := eq_true q478
         go_wp2
         go_ret2
         exact ⟨by first | rfl | (simp [errW_none, errW_some] <;> rfl) | (simp only [← hji10]; first | rfl | (simp [errW_none, errW_some] <;> rfl)) | (simp [*, errW_none, errW_some] <;> rfl), Ub⟩
   exact absurd H (by simp)

end Go.Proofs.Ytkbllhlmcfjcdaa.PFnSumsMade
