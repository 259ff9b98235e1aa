-- MADE FOR THIS CLAIM by wip/xp/xprint.py (with the kit's print; some functions' contracts proved by hand)
import Derived.Test.YtjjajbgijncfoaaPFnChangeGivenx0
import Derived.Test.YtjjajbgijncfoaaPFnChangeGivenx5
set_option maxHeartbeats 8000000
set_option maxRecDepth 100000
namespace Go.Proofs.Ytjjajbgijncfoaa.PFnChangeGiven
open Go.RowKit Go.Proofs.YtjjajbgijncfoaaW.PrintWords Go.Proofs.YtjjajbgijncfoaaW.PrintLast Go.Proofs.YtjjajbgijncfoaaW.PrintMore Go.Proofs.Ytjjajbgijncfoaa.Xmv
attribute [local go_sem] max2_int min2_int max_two min_two max_three min_three max_four min_four   -- for this text's walks alone
set_option linter.unusedVariables false
set_option linter.unusedSimpArgs false

/-! ### spec_cnFewer: function 98 -/
def spec_cnFewer.l0 : Nat → Int → List Int → Int → Option (List Int)
 | 0, _, _, _ => none
 | k + 1, x1, x5, x6 => if x6 ≤ x1 then (if 0 ≤ x6 then (if x6 < (x5.length : Int) then (spec_cnFewer.l0 k x1 (x5.set (x6 : Int).toNat (-1)) (wrap64 (x6 + 1))) else (none)) else (none)) else (some x5)
def spec_cnFewer.f (k : Nat) (l0 : List Int) (a1 : Int) : Option (List Int) := if (l0.length : Int) > 0 then ((spec_cnFew.f k l0 a1).bind fun t295 => (some t295)) else (if 0 ≤ (wrap64 (a1 + 1)) then (if (wrap64 (a1 + 1) : Int).toNat ≤ 35184372088832 then (spec_cnFewer.l0 k a1 (List.replicate (wrap64 (a1 + 1) : Int).toNat 0) 1) else (none)) else (none))
theorem spec_cnFewer.calls (k : Nat) (A0 : Option Addr) (c0 : Nat) (l0 : List Int) (a1 : Int) (r : List Int) (w : World) (hr0 : Kd.C (Kd.int .i64) w A0 l0.length l0) (hc0 : l0.length ≤ c0) (h : spec_cnFewer.f k l0 a1 = some r) :
 Calls Try.prog 98 #[.slice A0 l0.length c0, .int .i64 a1] w fun e w' => ∃ v0_ : Value, e = .returned (v0_) ∧ Kd.R (Kd.int .i64) 3 w' w.heap.size (fun _ => True) v0_ r ∧ Below w.heap.size w w' := by
 have HR0 := Aside0.mk hr0
 have HC0 := Aside0.mk hc0
 clear hr0 hc0
 have HB := Aside0.mk (Below.refl w.heap.size w)
 have H := h; unfold spec_cnFewer.f at H
 clear h
 replace H := Ic H; rcases H with ⟨c3, H⟩ | ⟨c3, H⟩
 · have c3b0 : decide (0 < (l0.length : Int)) = true := decide_eq_true c3
   have c3b1 : decide (0 < l0.length) = true := decide_eq_true (by omega)
   clear c3
   replace H := Option.bind_eq_some_iff.mp H
   obtain ⟨t295, A40, H⟩ := H
   have A4 := Aside0.mk A40
   clear A40
   obtain rfl := Option.some.inj H
   go_enter Try.func98, Try.ntmps98
   go_wp2_with (first | (refine Gl 12 #[.slice A0 l0.length c0, .int .i64 a1] Try.func97 ?_; (with_reducible refine (spec_cnFew.calls k _ _ l0 a1 t295 _ (Cm HR0.out) HC0.out A4.out).mono ?_); rintro e w5 ⟨v296, rfl, ho0, hb⟩; refine ⟨_, rfl, ?_⟩; have HO297 := Aside0.mk (Kd.R_lower ho0 (below_size Ub)); replace HB := Aside0.mk (below_step Ub hb); clear hb ho0))
   go_ret
   exact ⟨_, Re, Rm HO297.out, Ub⟩
 have c3b0 : decide (0 < (l0.length : Int)) = false := decide_eq_false c3
 have c3b1 : decide (0 < l0.length) = false := decide_eq_false (by omega)
 clear c3
 obtain ⟨ji6, hji6⟩ : ∃ j_ : Int, (wrap64 (a1 + 1)) = j_ := ⟨_, rfl⟩
 replace H : (if 0 ≤ (ji6) then (if (ji6 : Int).toNat ≤ 35184372088832 then (spec_cnFewer.l0 k a1 (List.replicate (ji6 : Int).toNat 0) 1) else (none)) else (none)) = some r := by first | (rw [hji6] at H; exact H) | (simp only [hji6] at H ⊢; exact H)
 have hji6w : (IntKind.i64.wrap (a1 + 1)) = ji6 := (i64_w _).trans hji6
 replace H := Ic H; rcases H with ⟨c7, H⟩ | ⟨c7, H⟩
 · have c7b0 := eq_true c7
   have c7b1 := decide_eq_true c7
   clear c7
   replace H := Ip H; obtain ⟨c8, H⟩ := H
   have c8b0 := eq_true c8
   have c8b1 := decide_eq_true c8
   clear c8
   obtain ⟨y298, hy298⟩ : ∃ y_ : List Int, y_ = (List.replicate (ji6 : Int).toNat 0) := ⟨_, rfl⟩
   replace H : (spec_cnFewer.l0 k a1 y298 1) = some r := by first | (rw [hy298]; with_reducible exact H) | (have H2_ := (Option.bind_some _ _).symm.trans H; rw [hy298]; with_reducible exact H2_) | (have H2_ := (Option.bind_some _ _).symm.trans H; with_reducible exact H2_) | with_reducible exact H | (rw [hy298]; exact H) | exact H
   have Ny298 := Aside0.mk hy298
   clear hy298
   have H' := Aside0.mk H
   clear H
   go_enter Try.func98, Try.ntmps98
   go_wp2_with (first | ((with_reducible refine gate_dst (N := 15) rfl ?_); refine Kd.R_make (Kd.int .i64) _ 3 rfl (N := 15) rfl 24 _ _ rfl ji6 rfl rfl Try.underlying24 (.int .i64 0) 8 info3 rfl (by decide) (by omega) 0 (ok := fun _ => True) (okp := fun _ => True) rfl (fun _ hk => hk) trivial (Oa) (Nat.le_trans (Nat.mul_le_mul_right _ (Oa : ji6.toNat ≤ 35184372088832)) (by omega)) (Below.refl _ _) (Nat.le_refl _) ?_; intro v299 w9 ho10 hb hg_ hnew_; clear hg_ hnew_; (first | rw [← Ny298.out] at ho10 | (simp only [Int.reduceToNat] at ho10; rw [← Ny298.out] at ho10)); have HO300 := Aside0.mk (Kd.R_lower ho10 (below_size Ub)); replace HB := Aside0.mk (below_step Ub hb); clear hb ho10))
   go_loopg [6] k (fun kq v6 w' => ∃ (x5_1 : List Int) (x6_1 : Int), v6 = .int .i64 x6_1 ∧ Aside0 (spec_cnFewer.l0 kq a1 x5_1 x6_1 = some r) ∧ Aside0 (kq ≤ k) ∧ Aside0 (Kd.R (Kd.int .i64) 3 w' w.heap.size (fun _ => True) v299 x5_1) ∧ Aside0 (Below w.heap.size w w'))
   case atStart => exact ⟨(y298), (1), Rs, H', ⟨Nat.le_refl _⟩, ⟨Rm HO300.out⟩, ⟨Ub⟩⟩
   case round =>
    clear H'
    try clear c3
    try clear c3b0
    try clear c3b1
    try clear c7
    try clear c7b0
    try clear c7b1
    try clear c8
    try clear c8b0
    try clear c8b1
    obtain ⟨x5_1, x6_1, rfl, HA, HK1, HO_5, HB⟩ := hrel
    cases gk with
    | zero => exact absurd HA.out (by simp [spec_cnFewer.l0])
    | succ k1 =>
     have H := HA.out
     clear HA
     simp only [spec_cnFewer.l0] at H
     replace H := Ic H; rcases H with ⟨c11, H⟩ | ⟨c11, H⟩
     · have c11b0 := decide_eq_true c11
       clear c11
       replace H := Ip H; obtain ⟨c12, H⟩ := H
       have c12b0 := decide_eq_true c12
       clear c12
       replace H := Ip H; obtain ⟨c13, H⟩ := H
       have c13b0 := decide_eq_true c13
       clear c13
       obtain ⟨y301, hy301⟩ : ∃ y_ : List Int, y_ = (x5_1.set (x6_1 : Int).toNat (-1)) := ⟨_, rfl⟩
       replace H : (spec_cnFewer.l0 k1 a1 y301 (wrap64 (x6_1 + 1))) = some r := by first | (rw [hy301]; with_reducible exact H) | (have H2_ := (Option.bind_some _ _).symm.trans H; rw [hy301]; with_reducible exact H2_) | (have H2_ := (Option.bind_some _ _).symm.trans H; with_reducible exact H2_) | with_reducible exact H | (rw [hy301]; exact H) | exact H
       have Ny301 := Aside0.mk hy301
       clear hy301
       have H' := Aside0.mk H
       clear H
       have p14 : 0 ≤ (x6_1 : Int) := Oa
       have q14 : (x6_1 : Int) < ((x5_1.length : Int) : Int) := Oa
       obtain ⟨go14, co14, eo14, gb14, gl14, cl14, HG14⟩ := Kd.R_form HO_5.out (by omega)
       (first | cases eo14 | (injection eo14 with ea_ en_ ec_; (first | subst ea_ | (injection ea_ with ea_; subst ea_)); subst ec_; clear en_))
       have GB14 := Aside0.mk gb14
       have GG14 := Aside0.mk HG14
       clear gb14 gl14 HG14
       obtain ⟨hx14_0, hf14_0⟩ := Kd.R_celln 0 HO_5.out (x6_1 : Int) p14 q14
       replace p14 := eq_true p14
       replace q14 := eq_true q14
       have HP15 := Kd.R_putg HO_5.out (x6_1 : Int) (-1)
       go_wp2_with (first | ((with_reducible refine gate_store (t := 3) (p := 23) rfl ?_); refine store_event (t := 3) (p := 23) (v := ?vo_w16) (w1 := (wr.setCell ⟨go14, (x6_1 : Int).toNat, none⟩ (.int .i64 (-1)))) ?hg ?ho ?hn ?hr ?_; (case ho => rfl); (case hg => rfl); (case hn => rfl); (case hr => first | (go_simp; done) | (go_simp; rfl)); intro w16 hw; have hg : wr.grownBy w16 (some go14) := (by rw [hw]; exact HP15.2); have hp_ : Kd.R (Kd.int .i64) 3 w16 w.heap.size (fun _ => True) (.slice (some ⟨go14, 0, none⟩) x5_1.length co14) y301 := (by rw [hw, Ny301.out]; exact HP15.1); clear HP15; replace HO_5 := Aside0.mk (hp_); replace HB := Aside0.mk ((by rw [hw]; exact below_set (HB.out) GB14.out : Below w.heap.size w w16)); clear hg hw hp_))
       go_roundg k1
       case measure => have := HK1.out; omega
       case rel => exact ⟨(y301), (wrap64 (x6_1 + 1)), Rs, H', ⟨by have := HK1.out; omega⟩, ⟨Rm HO_5.out⟩, ⟨Ub⟩⟩
     have c11b0 := decide_eq_false c11
     clear c11
     obtain rfl := Option.some.inj H
     go_wp2
     go_ret
     exact ⟨_, by first | rfl | (simp [errW_none, errW_some] <;> rfl) | (simp only [← hji6]; first | rfl | (simp [errW_none, errW_some] <;> rfl)) | (simp [*, errW_none, errW_some] <;> rfl), Rm HO_5.out, Ub⟩
 exact absurd H (by simp)

/-! ### spec_BestChange: function 10 -/
mutual
def spec_BestChange.j0 : Nat → List Int → Int → Bool → Option (List Int × Bool)
 | 0, _, _, _ => none
 | k + 1, x0, x1, x23 => if x23 = true then (some (([] : List Int), false)) else (if 0 ≤ (x0.length : Int) then (if ((x0.length : Int) : Int).toNat ≤ 35184372088832 then ((spec_cnFew.f k x0 x1).bind fun t310 => (if 0 ≤ x1 then (if x1 < (t310.length : Int) then (spec_BestChange.l0 k x0 x1 (List.replicate ((x0.length : Int) : Int).toNat 0) (rd t310 x1) x0 (x0.length : Int) 0) else (none)) else (none))) else (none)) else (none))
def spec_BestChange.l0 : Nat → List Int → Int → List Int → Int → List Int → Int → Int → Option (List Int × Bool)
 | 0, _, _, _, _, _, _, _ => none
 | k + 1, x0, x1, x6, x7, x33, x34, x35 => if x35 < x34 then (if 0 ≤ x35 then (if x35 < (x33.length : Int) then (if 0 ≤ (wrap64 (x35 + 1)) then (if (wrap64 (x35 + 1)) ≤ (x0.length : Int) then ((spec_cnFewer.f k (x0.drop ((wrap64 (x35 + 1)) : Int).toNat) x1).bind fun t316 => (spec_BestChange.l1 k x0 x1 x6 x7 x35 (rd x33 x35) t316 x33 x34 x35)) else (none)) else (none)) else (none)) else (none)) else (some (x6, true))
def spec_BestChange.l1 : Nat → List Int → Int → List Int → Int → Int → Int → List Int → List Int → Int → Int → Option (List Int × Bool)
 | 0, _, _, _, _, _, _, _, _, _, _ => none
 | k + 1, x0, x1, x6, x7, x8, x9, x10, x33, x34, x35 => if 0 ≤ x1 then (if x1 < (x10.length : Int) then (if (rd x10 x1) < 0 then (if 0 ≤ x8 then (if x8 < (x6.length : Int) then (spec_BestChange.l1 k x0 (wrap64 (x1 - x9)) (x6.set (x8 : Int).toNat (wrap64 ((rd x6 x8) + 1))) (wrap64 (x7 - 1)) x8 x9 x10 x33 x34 x35) else (none)) else (none)) else (if (rd x10 x1) = x7 then (spec_BestChange.l0 k x0 x1 x6 x7 x33 x34 (wrap64 (x35 + 1))) else (if 0 ≤ x8 then (if x8 < (x6.length : Int) then (spec_BestChange.l1 k x0 (wrap64 (x1 - x9)) (x6.set (x8 : Int).toNat (wrap64 ((rd x6 x8) + 1))) (wrap64 (x7 - 1)) x8 x9 x10 x33 x34 x35) else (none)) else (none)))) else (none)) else (none)
end
def spec_BestChange.f (k : Nat) (l0 : List Int) (a1 : Int) : Option (List Int × Bool) := (spec_cnAsked.f k l0 a1).bind fun t302 => (if t302 = true then ((spec_cnFew.f k l0 a1).bind fun t303 => (if 0 ≤ a1 then (if a1 < (t303.length : Int) then (spec_BestChange.j0 k l0 a1 (decide ((rd t303 a1) < 0))) else (none)) else (none))) else (spec_BestChange.j0 k l0 a1 true))
theorem spec_BestChange.calls (k : Nat) (A0 : Option Addr) (c0 : Nat) (l0 : List Int) (a1 : Int) (r1 : List Int) (r2 : Bool) (w : World) (hr0 : Kd.C (Kd.int .i64) w A0 l0.length l0) (hc0 : l0.length ≤ c0) (h : spec_BestChange.f k l0 a1 = some (r1, r2)) :
 Calls Try.prog 10 #[.slice A0 l0.length c0, .int .i64 a1] w fun e w' => ∃ v0_ : Value, e = .returned (.tuple #[v0_, .bool r2]) ∧ Kd.R (Kd.int .i64) 3 w' w.heap.size (fun _ => True) v0_ r1 ∧ Below w.heap.size w w' := by
 have HR0 := Aside0.mk hr0
 have HC0 := Aside0.mk hc0
 clear hr0 hc0
 have HB := Aside0.mk (Below.refl w.heap.size w)
 have H := h; unfold spec_BestChange.f at H
 clear h
 have HC3 := Aside0.mk H
 clear H
 go_enter Try.func10, Try.ntmps10
 go_upto_region 1 with (fail)
 go_cut [23] (fun v23 wc => ∃ (kq : Nat) (x23_2 : Bool), v23 = .bool x23_2 ∧ Aside0 (spec_BestChange.j0 kq l0 a1 x23_2 = some (r1, r2)) ∧ Aside0 (kq ≤ k) ∧ Aside0 (Below w.heap.size w wc))
 case first =>
  have H := HC3.out
  clear HC3
  replace H := Option.bind_eq_some_iff.mp H
  obtain ⟨t302, A40, H⟩ := H
  have A4 := Aside0.mk A40
  clear A40
  replace H := Iw H; rcases H with ⟨rfl, H⟩ | ⟨rfl, H⟩
  · replace H := Option.bind_eq_some_iff.mp H
    obtain ⟨t303, A60, H⟩ := H
    have A6 := Aside0.mk A60
    clear A60
    replace H := Ip H; obtain ⟨c7, H⟩ := H
    have c7b0 := decide_eq_true c7
    clear c7
    (first | rw [c7b0] | (simp only [i64_w, i32_w]; rw [c7b0]) | skip)
    replace H := Ip H; obtain ⟨c8, H⟩ := H
    have c8b0 := decide_eq_true c8
    clear c8
    have H' := Aside0.mk H
    clear H
    go_wp2_with (first | (refine Gl 13 #[.slice A0 l0.length c0, .int .i64 a1] Try.func96 ?_; (with_reducible refine (spec_cnAsked.calls k _ _ l0 a1 true _ (Cm (Kd.C_below HR0.out HB.out)) HC0.out A4.out).mono ?_); rintro e w' ⟨rfl, ⟨nd, rfl⟩⟩; refine ⟨_, rfl, ?_⟩) | (go_at_call 97; (with_reducible refine (spec_cnFew.calls k _ _ l0 a1 t303 _ (Cm (Kd.C_below HR0.out Ub)) HC0.out A6.out).mono ?_); rintro e w9 ⟨v304, rfl, ho0, hb⟩; have HO305 := Aside0.mk (Kd.R_lower ho0 (below_size Ub)); replace HB := Aside0.mk (below_step Ub hb); clear hb ho0; obtain ⟨Ao10, co10, eo10⟩ := Kd.R_slice HO305.out; subst eo10; have p306 : 0 ≤ (a1 : Int) := Oa; have q306 : a1 < (t303.length : Int) := Oa; obtain ⟨ad306, e306, hx306_0⟩ := Kd.at_int (Kd.R_reads' HO305.out).2.2 a1 p306 q306; cases e306; replace p306 := eq_true p306; replace q306 := eq_true q306))
    go_meet
    case rel => exact ⟨_, (decide ((rd t303 a1) < 0)), Rs, H', ⟨by first | omega | exact Nat.le_refl _⟩, ⟨Ub⟩⟩
  have H' := Aside0.mk H
  clear H
  go_wp2_with (first | (refine Gl 13 #[.slice A0 l0.length c0, .int .i64 a1] Try.func96 ?_; (with_reducible refine (spec_cnAsked.calls k _ _ l0 a1 false _ (Cm (Kd.C_below HR0.out HB.out)) HC0.out A4.out).mono ?_); rintro e w' ⟨rfl, ⟨nd, rfl⟩⟩; refine ⟨_, rfl, ?_⟩))
  go_meet
  case rel => exact ⟨_, (true), Rs, H', ⟨by first | omega | exact Nat.le_refl _⟩, ⟨Ub⟩⟩
 case rest =>
  clear HC3
  try clear c7
  try clear c7b0
  try clear c8
  try clear c8b0
  try clear hx306_0
  try clear p306
  try clear q306
  obtain ⟨kq, x23_2, rfl, HA, HJ2, HB⟩ := hcut
  cases kq with
  | zero => exact absurd HA.out (by simp [spec_BestChange.j0])
  | succ kj2 =>
   have H := HA.out
   clear HA
   simp only [spec_BestChange.j0] at H
   by_cases c11 : x23_2 = true
   · subst c11
     have H1 : (some (([] : List Int), false)) = some (r1, r2) := by rw [if_pos rfl] at H; exact H
     clear H
     have H := H1
     clear H1
     simp only [Option.some.injEq, Prod.mk.injEq] at H
     obtain ⟨rfl, rfl⟩ := H
     go_wp2
     go_ret2
     exact ⟨_, Re, Nl, Ub⟩
   replace c11 := Bool.eq_false_iff.mpr c11
   subst c11
   have H1 : (if 0 ≤ (l0.length : Int) then (if ((l0.length : Int) : Int).toNat ≤ 35184372088832 then ((spec_cnFew.f kj2 l0 a1).bind fun t310 => (if 0 ≤ a1 then (if a1 < (t310.length : Int) then (spec_BestChange.l0 kj2 l0 a1 (List.replicate ((l0.length : Int) : Int).toNat 0) (rd t310 a1) l0 (l0.length : Int) 0) else (none)) else (none))) else (none)) else (none)) = some (r1, r2) := by rw [if_neg (show ¬ (false = true) by decide)] at H; exact H
   clear H
   have H := H1
   clear H1
   replace H := Ic H; rcases H with ⟨c12, H⟩ | ⟨c12, H⟩
   · have c12b0 := eq_true c12
     have c12b1 := decide_eq_true c12
     clear c12
     replace H := Ip H; obtain ⟨c13, H⟩ := H
     have c13b0 := eq_true c13
     have c13b1 := decide_eq_true c13
     clear c13
     obtain ⟨y307, hy307⟩ : ∃ y_ : List Int, y_ = (List.replicate ((l0.length : Int) : Int).toNat 0) := ⟨_, rfl⟩
     replace H : ((spec_cnFew.f kj2 l0 a1).bind fun t310 => (if 0 ≤ a1 then (if a1 < (t310.length : Int) then (spec_BestChange.l0 kj2 l0 a1 y307 (rd t310 a1) l0 (l0.length : Int) 0) else (none)) else (none))) = some (r1, r2) := by first | (rw [hy307]; with_reducible exact H) | (have H2_ := (Option.bind_some _ _).symm.trans H; rw [hy307]; with_reducible exact H2_) | (have H2_ := (Option.bind_some _ _).symm.trans H; with_reducible exact H2_) | with_reducible exact H | (rw [hy307]; exact H) | exact H
     have Ny307 := Aside0.mk hy307
     clear hy307
     replace H := Option.bind_eq_some_iff.mp H
     obtain ⟨t310, A140, H⟩ := H
     have A14 := Aside0.mk A140
     clear A140
     replace H := Ip H; obtain ⟨c15, H⟩ := H
     have c15b0 := decide_eq_true c15
     clear c15
     replace H := Ip H; obtain ⟨c16, H⟩ := H
     have c16b0 := decide_eq_true c16
     clear c16
     have H' := Aside0.mk H
     clear H
     go_wp2_with (first | ((with_reducible refine gate_dst (N := 26) rfl ?_); refine Kd.R_make (Kd.int .i64) _ 3 rfl (N := 26) rfl 24 _ _ rfl (l0.length : Int) rfl rfl Try.underlying24 (.int .i64 0) 8 info3 rfl (by decide) (by omega) 0 (ok := fun _ => True) (okp := fun _ => True) rfl (fun _ hk => hk) trivial (Oa) (Nat.le_trans (Nat.mul_le_mul_right _ (Oa : (l0.length : Int).toNat ≤ 35184372088832)) (by omega)) (Below.refl _ _) (Nat.le_refl _) ?_; intro v308 w17 ho18 hb hg_ hnew_; clear hg_ hnew_; (first | rw [← Ny307.out] at ho18 | (simp only [Int.reduceToNat] at ho18; rw [← Ny307.out] at ho18)); have HO309 := Aside0.mk (Kd.R_lower ho18 (below_size Ub)); replace HB := Aside0.mk (below_step Ub hb); clear hb ho18) | (refine Gl 29 #[.slice A0 l0.length c0, .int .i64 a1] Try.func97 ?_; (with_reducible refine (spec_cnFew.calls kj2 _ _ l0 a1 t310 _ (Cm (Kd.C_below HR0.out HB.out)) HC0.out A14.out).mono ?_); rintro e w19 ⟨v311, rfl, ho0, hb⟩; refine ⟨_, rfl, ?_⟩; have HO312 := Aside0.mk (Kd.R_lower (Kd.R_new' ho0 (Kd.R_lt (Rm HO309.out))) (below_size Ub)); replace HO309 := Aside0.mk (Kd.R_elder' (Rm HO309.out) (Kd.R_base ho0) hb); replace HB := Aside0.mk (below_step Ub hb); clear hb ho0; obtain ⟨Ao20, co20, eo20⟩ := Kd.R_slice HO312.out; subst eo20; have p313 : 0 ≤ (a1 : Int) := Oa; have q313 : a1 < (t310.length : Int) := Oa; obtain ⟨ad313, e313, hx313_0⟩ := Kd.at_int (Kd.R_reads' HO312.out).2.2 a1 p313 q313; cases e313; replace p313 := eq_true p313; replace q313 := eq_true q313))
     go_loopg [1, 7, 35] kj2 (fun kq v1 v7 v35 w' => ∃ (x1_2 : Int) (x6_2 : List Int) (x7_2 : Int) (x35_2 : Int), v1 = .int .i64 x1_2 ∧ v7 = .int .i64 x7_2 ∧ v35 = .int .i64 x35_2 ∧ Aside0 (spec_BestChange.l0 kq l0 x1_2 x6_2 x7_2 l0 (l0.length : Int) x35_2 = some (r1, r2)) ∧ Aside0 (kq ≤ kj2) ∧ Aside0 (Kd.R (Kd.int .i64) 3 w' w.heap.size (fun _ => True) v308 x6_2) ∧ Aside0 (Below w.heap.size w w'))
     case atStart => exact ⟨(a1), (y307), (rd t310 a1), (0), Rs, Rs, Rs, H', ⟨Nat.le_refl _⟩, ⟨by (with_reducible repeat (first | apply Kd.R_alloc | apply Kd.R_drewN | apply Kd.R_drew)); exact Kd.R_mono HO309.out (fun _ hk => trivial)⟩, ⟨Ub⟩⟩
     case round =>
      clear H'
      try clear c7
      try clear c7b0
      try clear c8
      try clear c8b0
      try clear c11
      try clear c12
      try clear c12b0
      try clear c12b1
      try clear c13
      try clear c13b0
      try clear c13b1
      try clear c15
      try clear c15b0
      try clear c16
      try clear c16b0
      try clear hx306_0
      try clear hx313_0
      try clear p306
      try clear p313
      try clear q306
      try clear q313
      obtain ⟨x1_2, x6_2, x7_2, x35_2, rfl, rfl, rfl, HA, HK2, HO_6, HB⟩ := hrel
      cases gk with
      | zero => exact absurd HA.out (by simp [spec_BestChange.l0])
      | succ k2 =>
       have H := HA.out
       clear HA
       simp only [spec_BestChange.l0] at H
       replace H := Ic H; rcases H with ⟨c21, H⟩ | ⟨c21, H⟩
       · have c21b0 := decide_eq_true c21
         clear c21
         replace H := Ip H; obtain ⟨c22, H⟩ := H
         have c22b0 := decide_eq_true c22
         clear c22
         replace H := Ip H; obtain ⟨c23, H⟩ := H
         have c23b0 := decide_eq_true c23
         clear c23
         obtain ⟨ji24, hji24⟩ : ∃ j_ : Int, (wrap64 (x35_2 + 1)) = j_ := ⟨_, rfl⟩
         replace H : (if 0 ≤ (ji24) then (if (ji24) ≤ (l0.length : Int) then ((spec_cnFewer.f k2 (l0.drop ((ji24) : Int).toNat) x1_2).bind fun t316 => (spec_BestChange.l1 k2 l0 x1_2 x6_2 x7_2 x35_2 (rd l0 x35_2) t316 l0 (l0.length : Int) x35_2)) else (none)) else (none)) = some (r1, r2) := by first | (rw [hji24] at H; exact H) | (simp only [hji24] at H ⊢; exact H)
         have hji24w : (IntKind.i64.wrap (x35_2 + 1)) = ji24 := (i64_w _).trans hji24
         replace H := Ip H; obtain ⟨c25, H⟩ := H
         have c25b0 := eq_true c25
         have c25b1 := decide_eq_true c25
         clear c25
         replace H := Ip H; obtain ⟨c26, H⟩ := H
         have c26b0 := eq_true c26
         have c26b1 := decide_eq_true c26
         clear c26
         replace H := Option.bind_eq_some_iff.mp H
         obtain ⟨t316, A270, H⟩ := H
         have A27 := Aside0.mk A270
         clear A270
         have H' := Aside0.mk H
         clear H
         obtain ⟨p314, q314, ad314, e314, hx314_0⟩ := Ai HR0.out x35_2
         cases e314
         replace hx314_0 := (HB.out.cell (World.block_lt_of_cell? w _ hx314_0)).trans hx314_0
         obtain ⟨i028, hi028, _, hsz28, _⟩ := info_parts info3
         obtain ⟨A28, hcut28, hA28, hC28⟩ := print_drop_of (P := Try.prog) (Value.int .i64) 0 24 3 .i64 Try.underlying24 hi028 hsz28 (some ad314) c0 l0 (ji24) (Oa) (Oa) HC0.out
         have HR315 : Aside0 (Kd.C (Kd.int .i64) w A28 (l0.drop ((ji24) : Int).toNat).length (l0.drop ((ji24) : Int).toNat)) := ⟨Kd.C_of_reads (h1 := fun _ => rfl) (hA28 _ (Kd.reads_of_C HR0.out))⟩
         have HC315 := Aside0.mk hC28
         clear hA28 hC28 hi028 hsz28
         go_wp2_with (first | (refine Gl 45 #[.slice A28 (l0.drop ((ji24) : Int).toNat).length (c0 - (ji24).toNat), .int .i64 x1_2] Try.func98 ?_ (hargs := (by (try simp only [List.map_toArray, List.map_cons, List.map_nil]); first | done | (rw [show (l0.drop ((ji24) : Int).toNat).length = (l0.length - (ji24).toNat) from List.length_drop] <;> rfl) | (simp only [hji24]; rfl) | rfl | (simp only [List.length_drop, List.length_take]; rfl))); (with_reducible refine (spec_cnFewer.calls k2 _ _ (l0.drop ((ji24) : Int).toNat) x1_2 t316 _ (Cm (Kd.C_below HR315.out HB.out)) HC315.out A27.out).mono ?_); rintro e w29 ⟨v317, rfl, ho0, hb⟩; refine ⟨_, rfl, ?_⟩; have HO318 := Aside0.mk (Kd.R_lower (Kd.R_new' ho0 (Kd.R_lt (Rm HO_6.out))) (below_size Ub)); replace HO_6 := Aside0.mk (Kd.R_elder' (Rm HO_6.out) (Kd.R_base ho0) hb); replace HB := Aside0.mk (below_step Ub hb); clear hb ho0))
         go_loopg [1, 7] k2 (fun kq v1 v7 w' => ∃ (x1_3 : Int) (x6_3 : List Int) (x7_3 : Int), v1 = .int .i64 x1_3 ∧ v7 = .int .i64 x7_3 ∧ Aside0 (spec_BestChange.l1 kq l0 x1_3 x6_3 x7_3 x35_2 (rd l0 x35_2) t316 l0 (l0.length : Int) x35_2 = some (r1, r2)) ∧ Aside0 (kq ≤ k2) ∧ Aside0 (Kd.R (Kd.int .i64) 3 w' w.heap.size (fun k_ => some k_ ≠ (v317 : Value).ownBlock) v308 x6_3) ∧ Aside0 (Kd.R (Kd.int .i64) 3 w' w.heap.size (fun k_ => some k_ ≠ (v308 : Value).ownBlock) v317 t316) ∧ Aside0 (Below w.heap.size w w'))
         case atStart => exact ⟨(x1_2), (x6_2), (x7_2), Rs, Rs, H', ⟨Nat.le_refl _⟩, ⟨by (with_reducible repeat (first | apply Kd.R_alloc | apply Kd.R_drewN | apply Kd.R_drew)); exact Kd.R_mono HO_6.out (fun _ hk => hk.2)⟩, ⟨by (with_reducible repeat (first | apply Kd.R_alloc | apply Kd.R_drewN | apply Kd.R_drew)); exact Kd.R_mono HO318.out (fun _ hk => hk.2)⟩, ⟨Ub⟩⟩
         case round =>
          clear H'
          try clear c7
          try clear c7b0
          try clear c8
          try clear c8b0
          try clear c11
          try clear c12
          try clear c12b0
          try clear c12b1
          try clear c13
          try clear c13b0
          try clear c13b1
          try clear c15
          try clear c15b0
          try clear c16
          try clear c16b0
          try clear c21
          try clear c21b0
          try clear c22
          try clear c22b0
          try clear c23
          try clear c23b0
          try clear c25
          try clear c25b0
          try clear c25b1
          try clear c26
          try clear c26b0
          try clear c26b1
          try clear hx306_0
          try clear hx313_0
          try clear hx314_0
          try clear p306
          try clear p313
          try clear p314
          try clear q306
          try clear q313
          try clear q314
          obtain ⟨x1_3, x6_3, x7_3, rfl, rfl, HA, HK3, HO_6, HO_10, HB⟩ := hrel
          cases gk with
          | zero => exact absurd HA.out (by simp [spec_BestChange.l1])
          | succ k3 =>
           have H := HA.out
           clear HA
           simp only [spec_BestChange.l1] at H
           replace H := Ip H; obtain ⟨c30, H⟩ := H
           have c30b0 := decide_eq_true c30
           clear c30
           replace H := Ip H; obtain ⟨c31, H⟩ := H
           have c31b0 := decide_eq_true c31
           clear c31
           replace H := Ic H; rcases H with ⟨c32, H⟩ | ⟨c32, H⟩
           · have c32b0 := decide_eq_true c32
             clear c32
             replace H := Ip H; obtain ⟨c33, H⟩ := H
             have c33b0 := decide_eq_true c33
             clear c33
             replace H := Ip H; obtain ⟨c34, H⟩ := H
             have c34b0 := decide_eq_true c34
             clear c34
             obtain ⟨y321, hy321⟩ : ∃ y_ : List Int, y_ = (x6_3.set (x35_2 : Int).toNat (wrap64 ((rd x6_3 x35_2) + 1))) := ⟨_, rfl⟩
             replace H : (spec_BestChange.l1 k3 l0 (wrap64 (x1_3 - (rd l0 x35_2))) y321 (wrap64 (x7_3 - 1)) x35_2 (rd l0 x35_2) t316 l0 (l0.length : Int) x35_2) = some (r1, r2) := by first | (rw [hy321]; with_reducible exact H) | (have H2_ := (Option.bind_some _ _).symm.trans H; rw [hy321]; with_reducible exact H2_) | (have H2_ := (Option.bind_some _ _).symm.trans H; with_reducible exact H2_) | with_reducible exact H | (rw [hy321]; exact H) | exact H
             have Ny321 := Aside0.mk hy321
             clear hy321
             have H' := Aside0.mk H
             clear H
             obtain ⟨Ao36, co36, eo36⟩ := Kd.R_slice HO_10.out
             subst eo36
             obtain ⟨p319, q319, ad319, e319, hx319_0⟩ := Ai (Kd.R_reads' HO_10.out).2.2 x1_3
             cases e319
             obtain ⟨Ao37, co37, eo37⟩ := Kd.R_slice HO_6.out
             subst eo37
             obtain ⟨p320, q320, ad320, e320, hx320_0⟩ := Ai (Kd.R_reads' HO_6.out).2.2 x35_2
             cases e320
             have p35 : 0 ≤ (x35_2 : Int) := Oa
             have q35 : (x35_2 : Int) < ((x6_3.length : Int) : Int) := Oa
             obtain ⟨go35, co35, eo35, gb35, gl35, cl35, HG35⟩ := Kd.R_form HO_6.out (by omega)
             (first | cases eo35 | (injection eo35 with ea_ en_ ec_; (first | subst ea_ | (injection ea_ with ea_; subst ea_)); subst ec_; clear en_))
             have GB35 := Aside0.mk gb35
             have GG35 := Aside0.mk HG35
             clear gb35 gl35 HG35
             (first | simp only [add_plain] at hx320_0 | skip)
             obtain ⟨hx35_0, hf35_0⟩ := Kd.R_celln 0 HO_6.out (x35_2 : Int) p35 q35
             replace p35 := eq_true p35
             replace q35 := eq_true q35
             have HP38 := Kd.R_putg HO_6.out (x35_2 : Int) (wrap64 ((rd x6_3 x35_2) + 1))
             go_wp2_with (first | ((with_reducible refine gate_store (t := 3) (p := 64) rfl ?_); refine store_event (t := 3) (p := 64) (v := ?vo_w39) (w1 := (wr.setCell ⟨go35, (x35_2 : Int).toNat, none⟩ (.int .i64 (wrap64 ((rd x6_3 x35_2) + 1))))) ?hg ?ho ?hn ?hr ?_; (case ho => rfl); (case hg => rfl); (case hn => rfl); (case hr => first | (go_simp; done) | (go_simp; rfl)); intro w39 hw; have hg : wr.grownBy w39 (some go35) := (by rw [hw]; exact HP38.2); have hp_ : Kd.R (Kd.int .i64) 3 w39 w.heap.size (fun k_ => some k_ ≠ (.slice (some ad319) t316.length co36 : Value).ownBlock) (.slice (some ⟨go35, 0, none⟩) x6_3.length co37) y321 := (by rw [hw, Ny321.out]; exact HP38.1); clear HP38; replace HO_6 := Aside0.mk (hp_); replace HO_10 := Aside0.mk (Kd.R_after (v := (.slice (some ⟨go35, 0, none⟩) x6_3.length co37)) (v1 := (.slice (some ⟨go35, 0, none⟩) x6_3.length co37)) (ok := (fun _ => True)) (by (with_reducible repeat (first | apply Kd.R_alloc | apply Kd.R_drewN | apply Kd.R_drew)); exact Kd.R_mono HO_10.out (fun _ hk => ⟨trivial, hk⟩)) hg (.inl rfl)); replace HB := Aside0.mk ((by rw [hw]; exact below_set (HB.out) GB35.out : Below w.heap.size w w39)); clear hg hw hp_))
             go_roundg k3
             case measure => have := HJ2.out; have := HK2.out; have := HK3.out; omega
             case rel => exact ⟨(wrap64 (x1_3 - (rd l0 x35_2))), (y321), (wrap64 (x7_3 - 1)), Rs, Rs, H', ⟨by have := HJ2.out; have := HK2.out; have := HK3.out; omega⟩, ⟨Rm HO_6.out⟩, ⟨by (with_reducible repeat (first | apply Kd.R_alloc | apply Kd.R_drewN | apply Kd.R_drew)); exact Kd.R_mono HO_10.out (fun _ hk => hk.2)⟩, ⟨Ub⟩⟩
           have c32b0 := decide_eq_false c32
           clear c32
           replace H := Ic H; rcases H with ⟨c40, H⟩ | ⟨c40, H⟩
           · have c40b0 : ((rd t316 x1_3) == x7_3) = true := beq_iff_eq.mpr c40
             have c40b1 := bne_eq_false_iff_eq.mpr c40
             clear c40
             have H' := Aside0.mk H
             clear H
             obtain ⟨Ao41, co41, eo41⟩ := Kd.R_slice HO_10.out
             subst eo41
             obtain ⟨p319, q319, ad319, e319, hx319_0⟩ := Ai (Kd.R_reads' HO_10.out).2.2 x1_3
             cases e319
             have p322 : 0 ≤ (x1_3 : Int) := Oa
             have q322 : x1_3 < (t316.length : Int) := Oa
             obtain ⟨ad322, e322, hx322_0⟩ := Kd.at_int (Kd.R_reads' HO_10.out).2.2 x1_3 p322 q322
             obtain rfl : ad319 = ad322 := (by injection e322)
             replace p322 := eq_true p322
             replace q322 := eq_true q322
             go_wp2
             go_roundg k3
             case measure => have := HJ2.out; have := HK2.out; have := HK3.out; omega
             case rel => exact ⟨(x1_3), (x6_3), (x7_3), (wrap64 (x35_2 + 1)), Rs, Rs, Rs, H', ⟨by have := HJ2.out; have := HK2.out; have := HK3.out; omega⟩, ⟨by (with_reducible repeat (first | apply Kd.R_alloc | apply Kd.R_drewN | apply Kd.R_drew)); exact Kd.R_mono HO_6.out (fun _ hk => trivial)⟩, ⟨Ub⟩⟩
           have c40b0 : ((rd t316 x1_3) == x7_3) = false := beq_eq_false_iff_ne.mpr c40
           have c40b1 := bne_iff_ne.mpr c40
           replace H := Ip H; obtain ⟨c42, H⟩ := H
           have c42b0 := decide_eq_true c42
           clear c42
           replace H := Ip H; obtain ⟨c43, H⟩ := H
           have c43b0 := decide_eq_true c43
           clear c43
           obtain ⟨y324, hy324⟩ : ∃ y_ : List Int, y_ = (x6_3.set (x35_2 : Int).toNat (wrap64 ((rd x6_3 x35_2) + 1))) := ⟨_, rfl⟩
           replace H : (spec_BestChange.l1 k3 l0 (wrap64 (x1_3 - (rd l0 x35_2))) y324 (wrap64 (x7_3 - 1)) x35_2 (rd l0 x35_2) t316 l0 (l0.length : Int) x35_2) = some (r1, r2) := by first | (rw [hy324]; with_reducible exact H) | (have H2_ := (Option.bind_some _ _).symm.trans H; rw [hy324]; with_reducible exact H2_) | (have H2_ := (Option.bind_some _ _).symm.trans H; with_reducible exact H2_) | with_reducible exact H | (rw [hy324]; exact H) | exact H
           have Ny324 := Aside0.mk hy324
           clear hy324
           have H' := Aside0.mk H
           clear H
           obtain ⟨Ao45, co45, eo45⟩ := Kd.R_slice HO_10.out
           subst eo45
           obtain ⟨p319, q319, ad319, e319, hx319_0⟩ := Ai (Kd.R_reads' HO_10.out).2.2 x1_3
           cases e319
           have p322 : 0 ≤ (x1_3 : Int) := Oa
           have q322 : x1_3 < (t316.length : Int) := Oa
           obtain ⟨ad322, e322, hx322_0⟩ := Kd.at_int (Kd.R_reads' HO_10.out).2.2 x1_3 p322 q322
           obtain rfl : ad319 = ad322 := (by injection e322)
           replace p322 := eq_true p322
           replace q322 := eq_true q322
           obtain ⟨Ao46, co46, eo46⟩ := Kd.R_slice HO_6.out
           subst eo46
           obtain ⟨p323, q323, ad323, e323, hx323_0⟩ := Ai (Kd.R_reads' HO_6.out).2.2 x35_2
           cases e323
           have p44 : 0 ≤ (x35_2 : Int) := Oa
           have q44 : (x35_2 : Int) < ((x6_3.length : Int) : Int) := Oa
           obtain ⟨go44, co44, eo44, gb44, gl44, cl44, HG44⟩ := Kd.R_form HO_6.out (by omega)
           (first | cases eo44 | (injection eo44 with ea_ en_ ec_; (first | subst ea_ | (injection ea_ with ea_; subst ea_)); subst ec_; clear en_))
           have GB44 := Aside0.mk gb44
           have GG44 := Aside0.mk HG44
           clear gb44 gl44 HG44
           (first | simp only [add_plain] at hx323_0 | skip)
           obtain ⟨hx44_0, hf44_0⟩ := Kd.R_celln 0 HO_6.out (x35_2 : Int) p44 q44
           replace p44 := eq_true p44
           replace q44 := eq_true q44
           have HP47 := Kd.R_putg HO_6.out (x35_2 : Int) (wrap64 ((rd x6_3 x35_2) + 1))
           go_wp2_with (first | ((with_reducible refine gate_store (t := 3) (p := 64) rfl ?_); refine store_event (t := 3) (p := 64) (v := ?vo_w48) (w1 := (wr.setCell ⟨go44, (x35_2 : Int).toNat, none⟩ (.int .i64 (wrap64 ((rd x6_3 x35_2) + 1))))) ?hg ?ho ?hn ?hr ?_; (case ho => rfl); (case hg => rfl); (case hn => rfl); (case hr => first | (go_simp; done) | (go_simp; rfl)); intro w48 hw; have hg : wr.grownBy w48 (some go44) := (by rw [hw]; exact HP47.2); have hp_ : Kd.R (Kd.int .i64) 3 w48 w.heap.size (fun k_ => some k_ ≠ (.slice (some ad319) t316.length co45 : Value).ownBlock) (.slice (some ⟨go44, 0, none⟩) x6_3.length co46) y324 := (by rw [hw, Ny324.out]; exact HP47.1); clear HP47; replace HO_6 := Aside0.mk (hp_); replace HO_10 := Aside0.mk (Kd.R_after (v := (.slice (some ⟨go44, 0, none⟩) x6_3.length co46)) (v1 := (.slice (some ⟨go44, 0, none⟩) x6_3.length co46)) (ok := (fun _ => True)) (by (with_reducible repeat (first | apply Kd.R_alloc | apply Kd.R_drewN | apply Kd.R_drew)); exact Kd.R_mono HO_10.out (fun _ hk => ⟨trivial, hk⟩)) hg (.inl rfl)); replace HB := Aside0.mk ((by rw [hw]; exact below_set (HB.out) GB44.out : Below w.heap.size w w48)); clear hg hw hp_))
           go_roundg k3
           case measure => have := HJ2.out; have := HK2.out; have := HK3.out; omega
           case rel => exact ⟨(wrap64 (x1_3 - (rd l0 x35_2))), (y324), (wrap64 (x7_3 - 1)), Rs, Rs, H', ⟨by have := HJ2.out; have := HK2.out; have := HK3.out; omega⟩, ⟨Rm HO_6.out⟩, ⟨by (with_reducible repeat (first | apply Kd.R_alloc | apply Kd.R_drewN | apply Kd.R_drew)); exact Kd.R_mono HO_10.out (fun _ hk => hk.2)⟩, ⟨Ub⟩⟩
       have c21b0 := decide_eq_false c21
       clear c21
       simp only [Option.some.injEq, Prod.mk.injEq] at H
       obtain ⟨rfl, rfl⟩ := H
       go_wp2
       go_ret2
       exact ⟨_, Re, Rm HO_6.out, Ub⟩
   exact absurd H (by simp)

/-! ### spec_FewestCoins: function 12 -/
def spec_FewestCoins.f (k : Nat) (l0 : List Int) (a1 : Int) : Option (Int × Bool) := (spec_cnAsked.f k l0 a1).bind fun t325 => (if t325 = true then ((spec_cnFew.f k l0 a1).bind fun t326 => (if 0 ≤ a1 then (if a1 < (t326.length : Int) then (if (rd t326 a1) < 0 then (some (0, false)) else (some (rd t326 a1, true))) else (none)) else (none))) else (some (0, false)))
theorem spec_FewestCoins.calls (k : Nat) (A0 : Option Addr) (c0 : Nat) (l0 : List Int) (a1 : Int) (r1 : Int) (r2 : Bool) (w : World) (hr0 : Kd.C (Kd.int .i64) w A0 l0.length l0) (hc0 : l0.length ≤ c0) (h : spec_FewestCoins.f k l0 a1 = some (r1, r2)) :
 Calls Try.prog 12 #[.slice A0 l0.length c0, .int .i64 a1] w fun e w' => e = .returned (.tuple #[.int .i64 r1, .bool r2]) ∧ Below w.heap.size w w' := by
 have HR0 := Aside0.mk hr0
 have HC0 := Aside0.mk hc0
 clear hr0 hc0
 have HB := Aside0.mk (Below.refl w.heap.size w)
 have H := h; unfold spec_FewestCoins.f at H
 clear h
 replace H := Option.bind_eq_some_iff.mp H
 obtain ⟨t325, A30, H⟩ := H
 have A3 := Aside0.mk A30
 clear A30
 replace H := Iw H; rcases H with ⟨rfl, H⟩ | ⟨rfl, H⟩
 · replace H := Option.bind_eq_some_iff.mp H
   obtain ⟨t326, A50, H⟩ := H
   have A5 := Aside0.mk A50
   clear A50
   replace H := Ip H; obtain ⟨c6, H⟩ := H
   have c6b0 := decide_eq_true c6
   clear c6
   replace H := Ip H; obtain ⟨c7, H⟩ := H
   have c7b0 := decide_eq_true c7
   clear c7
   replace H := Ic H; rcases H with ⟨c8, H⟩ | ⟨c8, H⟩
   · have c8b0 := decide_eq_true c8
     clear c8
     simp only [Option.some.injEq, Prod.mk.injEq] at H
     obtain ⟨rfl, rfl⟩ := H
     go_enter Try.func12, Try.ntmps12
     go_wp2_with (first | (refine Gl 9 #[.slice A0 l0.length c0, .int .i64 a1] Try.func96 ?_; (with_reducible refine (spec_cnAsked.calls k _ _ l0 a1 true _ (Cm HR0.out) HC0.out A3.out).mono ?_); rintro e w' ⟨rfl, ⟨nd, rfl⟩⟩; refine ⟨_, rfl, ?_⟩) | (refine Gl 13 #[.slice A0 l0.length c0, .int .i64 a1] Try.func97 ?_; (with_reducible refine (spec_cnFew.calls k _ _ l0 a1 t326 _ (Cm HR0.out) HC0.out A5.out).mono ?_); rintro e w9 ⟨v327, rfl, ho0, hb⟩; refine ⟨_, rfl, ?_⟩; have HO328 := Aside0.mk (Kd.R_lower ho0 (below_size Ub)); replace HB := Aside0.mk (below_step Ub hb); clear hb ho0; obtain ⟨Ao10, co10, eo10⟩ := Kd.R_slice HO328.out; subst eo10; have p329 : 0 ≤ (a1 : Int) := Oa; have q329 : a1 < (t326.length : Int) := Oa; obtain ⟨ad329, e329, hx329_0⟩ := Kd.at_int (Kd.R_reads' HO328.out).2.2 a1 p329 q329; cases e329; replace p329 := eq_true p329; replace q329 := eq_true q329))
     go_ret2
     exact ⟨Re, Ub⟩
   have c8b0 := decide_eq_false c8
   clear c8
   simp only [Option.some.injEq, Prod.mk.injEq] at H
   obtain ⟨rfl, rfl⟩ := H
   go_enter Try.func12, Try.ntmps12
   go_wp2_with (first | (refine Gl 9 #[.slice A0 l0.length c0, .int .i64 a1] Try.func96 ?_; (with_reducible refine (spec_cnAsked.calls k _ _ l0 a1 true _ (Cm HR0.out) HC0.out A3.out).mono ?_); rintro e w' ⟨rfl, ⟨nd, rfl⟩⟩; refine ⟨_, rfl, ?_⟩) | (refine Gl 13 #[.slice A0 l0.length c0, .int .i64 a1] Try.func97 ?_; (with_reducible refine (spec_cnFew.calls k _ _ l0 a1 t326 _ (Cm HR0.out) HC0.out A5.out).mono ?_); rintro e w11 ⟨v327, rfl, ho0, hb⟩; refine ⟨_, rfl, ?_⟩; have HO328 := Aside0.mk (Kd.R_lower ho0 (below_size Ub)); replace HB := Aside0.mk (below_step Ub hb); clear hb ho0; obtain ⟨Ao12, co12, eo12⟩ := Kd.R_slice HO328.out; subst eo12; have p329 : 0 ≤ (a1 : Int) := Oa; have q329 : a1 < (t326.length : Int) := Oa; obtain ⟨ad329, e329, hx329_0⟩ := Kd.at_int (Kd.R_reads' HO328.out).2.2 a1 p329 q329; cases e329; replace p329 := eq_true p329; replace q329 := eq_true q329))
   go_ret2
   exact ⟨Re, Ub⟩
 simp only [Option.some.injEq, Prod.mk.injEq] at H
 obtain ⟨rfl, rfl⟩ := H
 go_enter Try.func12, Try.ntmps12
 go_wp2_with (first | (refine Gl 9 #[.slice A0 l0.length c0, .int .i64 a1] Try.func96 ?_; (with_reducible refine (spec_cnAsked.calls k _ _ l0 a1 false _ (Cm HR0.out) HC0.out A3.out).mono ?_); rintro e w' ⟨rfl, ⟨nd, rfl⟩⟩; refine ⟨_, rfl, ?_⟩))
 go_ret2
 exact ⟨Re, Ub⟩

end Go.Proofs.Ytjjajbgijncfoaa.PFnChangeGiven
