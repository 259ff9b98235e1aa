-- MADE FOR THIS CLAIM by wip/xp/xprint.py (with the kit's print; some functions' contracts proved by hand)
import Derived.Test.YtkbllhlmcfjcdaaPFnSumsMadex0
import Derived.Test.YtkbllhlmcfjcdaaPFnSumsMadex4
import Derived.Test.YtkbllhlmcfjcdaaPFnSumsMadex10
set_option maxHeartbeats 8000000
set_option maxRecDepth 100000
namespace Go.Proofs.Ytkbllhlmcfjcdaa.PFnSumsMade
open Go.RowKit Go.Proofs.YtkbllhlmcfjcdaaW.PrintWords Go.Proofs.YtkbllhlmcfjcdaaW.PrintLast Go.Proofs.YtkbllhlmcfjcdaaW.PrintMore Go.Proofs.Ytkbllhlmcfjcdaa.Xmv
attribute [local go_sem] max2_int min2_int max_two min_two max_three min_three max_four min_four   -- for this text's walks alone
set_option linter.unusedVariables false
set_option linter.unusedSimpArgs false

/-! ### impl_FewestFor: function 47 -/
mutual
def impl_FewestFor.j0 : Nat → List Int → Int → Bool → Option (Int × Bool)
 | 0, _, _, _ => none
 | k + 1, x0, x1, x20 => if x20 = true then (some (0, false)) else (if 0 ≤ (wrap64 (x1 + 1)) then (if (wrap64 (x1 + 1) : Int).toNat ≤ 35184372088832 then ((some (List.replicate (wrap64 (x1 + 1) : Int).toNat 0 : List Int)).bind fun y459 => (impl_FewestFor.l0 k x0 x1 y459 (y459.length : Int) 0)) else (none)) else (none))
def impl_FewestFor.l0 : Nat → List Int → Int → List Int → Int → Int → Option (Int × Bool)
 | 0, _, _, _, _, _ => none
 | k + 1, x0, x1, x6, x25, x26 => if x26 < x25 then (if 0 ≤ x26 then (if x26 < (x6.length : Int) then (impl_FewestFor.l0 k x0 x1 (x6.set (x26 : Int).toNat 21) x25 (wrap64 (x26 + 1))) else (none)) else (none)) else (if 0 < (x6.length : Int) then (impl_FewestFor.l1 k x1 (x6.set (0 : Int).toNat 0) x0 (x0.length : Int) 0) else (none))
def impl_FewestFor.l1 : Nat → Int → List Int → List Int → Int → Int → Option (Int × Bool)
 | 0, _, _, _, _, _ => none
 | k + 1, x1, x6, x35, x36, x37 => if x37 < x36 then (if 0 ≤ x37 then (if x37 < (x35.length : Int) then (impl_FewestFor.l2 k x1 x6 (rd x35 x37) x1 x35 x36 x37) else (none)) else (none)) else (if 0 ≤ x1 then (if x1 < (x6.length : Int) then (if (rd x6 x1) ≥ 21 then (some (0, false)) else (some (rd x6 x1, true))) else (none)) else (none))
def impl_FewestFor.l2 : Nat → Int → List Int → Int → Int → List Int → Int → Int → Option (Int × Bool)
 | 0, _, _, _, _, _, _, _ => none
 | k + 1, x1, x6, x9, x10, x35, x36, x37 => if x10 ≥ x9 then (if 0 ≤ x10 then (if x10 < (x6.length : Int) then (if 0 ≤ (wrap64 (x10 - x9)) then (if (wrap64 (x10 - x9)) < (x6.length : Int) then (impl_FewestFor.l2 k x1 (x6.set (x10 : Int).toNat (mn (rd x6 x10) (wrap64 ((rd x6 (wrap64 (x10 - x9))) + 1)))) x9 (wrap64 (x10 - 1)) x35 x36 x37) else (none)) else (none)) else (none)) else (none)) else (impl_FewestFor.l1 k x1 x6 x35 x36 (wrap64 (x37 + 1)))
end
def impl_FewestFor.f (k : Nat) (l0 : List Int) (a1 : Int) : Option (Int × Bool) := (impl_isSum.f k l0 a1).bind fun t457 => (if t457 = true then ((impl_total.f k l0).bind fun t458 => (impl_FewestFor.j0 k l0 a1 (decide (a1 > t458)))) else (impl_FewestFor.j0 k l0 a1 true))
def impl_FewestFor.T16 : Bool × List (List Nat × List Nat) := (true, [([], []), ([], []), ([], []), ([], []), ([2, 3], [2, 3]), ([4], [4]), ([], []), ([], []), ([], []), ([7, 8], [7, 8]), ([6, 9], [6, 9]), ([10], [10]), ([11], [11]), ([5, 12], [5, 12]), ([0, 1, 0, 1, 2, 3, 4, 5, 6, 7, 8, 9, 10, 11, 12, 13], [0, 1]), ([14, 13, 0, 1, 2, 3, 4, 5, 6, 7, 8, 9, 10, 11, 12, 13], [13, 14])])
def impl_FewestFor.B16 : List Nat := [0, 0, 0, 0, 12, 28, 0, 0, 0, 384, 960, 1984, 4032, 8188, 16383, 32767]
theorem impl_FewestFor.tab16 : rtab .any (opsOf Try.f47 16) = impl_FewestFor.T16 := by kernel_rfl
theorem impl_FewestFor.bits16 : waitsOk impl_FewestFor.T16.2 impl_FewestFor.B16 = true := by kernel_rfl
theorem impl_FewestFor.calls (k : Nat) (A0 : Option Addr) (c0 : Nat) (l0 : List Int) (a1 : Int) (r1 : Int) (r2 : Bool) (w : World) (hr0 : Kd.C (Kd.int .i64) w A0 l0.length l0) (hc0 : l0.length ≤ c0) (h : impl_FewestFor.f k l0 a1 = some (r1, r2)) :
 Calls Try.prog 47 #[.slice A0 l0.length c0, .int .i64 a1] w fun e w' => e = .returned (.tuple #[.int .i64 r1, .bool r2]) ∧ Below w.heap.size w w' := by
 have HR0 := Aside0.mk hr0
 have HC0 := Aside0.mk hc0
 clear hr0 hc0
 have HB := Aside0.mk (Below.refl w.heap.size w)
 have H := h; unfold impl_FewestFor.f at H
 clear h
 have HC3 := Aside0.mk H
 clear H
 go_enter Try.func47, Try.ntmps47
 go_upto_region 1 with (fail)
 go_cut [20] (fun v20 wc => ∃ (kq : Nat) (x20_2 : Bool), v20 = .bool x20_2 ∧ Aside0 (impl_FewestFor.j0 kq l0 a1 x20_2 = some (r1, r2)) ∧ Aside0 (kq ≤ k) ∧ Aside0 (Below w.heap.size w wc))
 case first =>
  have H := HC3.out
  clear HC3
  replace H := Option.bind_eq_some_iff.mp H
  obtain ⟨t457, A40, H⟩ := H
  have A4 := Aside0.mk A40
  clear A40
  replace H := Iw H; rcases H with ⟨rfl, H⟩ | ⟨rfl, H⟩
  · replace H := Option.bind_eq_some_iff.mp H
    obtain ⟨t458, A60, H⟩ := H
    have A6 := Aside0.mk A60
    clear A60
    have H' := Aside0.mk H
    clear H
    go_wp2_with (first | (refine Gl 13 #[.slice A0 l0.length c0, .int .i64 a1] Try.func84 ?_; (with_reducible refine (impl_isSum.calls k _ _ l0 a1 true _ (Cm (Kd.C_below HR0.out HB.out)) HC0.out A4.out).mono ?_); rintro e w7 ⟨rfl, hb⟩; refine ⟨_, rfl, ?_⟩; replace HB := Aside0.mk (below_step Ub hb); clear hb) | (go_at_call 75; (with_reducible refine (impl_total.calls k _ _ l0 t458 _ (Cm (Kd.C_below HR0.out HB.out)) HC0.out A6.out).mono ?_); rintro e w' ⟨rfl, ⟨nd, rfl⟩⟩))
    go_meet
    case rel => exact ⟨_, (decide (a1 > t458)), Rs, H', ⟨by first | omega | exact Nat.le_refl _⟩, ⟨Ub⟩⟩
  have H' := Aside0.mk H
  clear H
  go_wp2_with (first | (refine Gl 13 #[.slice A0 l0.length c0, .int .i64 a1] Try.func84 ?_; (with_reducible refine (impl_isSum.calls k _ _ l0 a1 false _ (Cm (Kd.C_below HR0.out HB.out)) HC0.out A4.out).mono ?_); rintro e w8 ⟨rfl, hb⟩; refine ⟨_, rfl, ?_⟩; replace HB := Aside0.mk (below_step Ub hb); clear hb))
  go_meet
  case rel => exact ⟨_, (true), Rs, H', ⟨by first | omega | exact Nat.le_refl _⟩, ⟨Ub⟩⟩
 case rest =>
  clear HC3
  obtain ⟨kq, x20_2, rfl, HA, HJ2, HB⟩ := hcut
  cases kq with
  | zero => exact absurd HA.out (by simp [impl_FewestFor.j0])
  | succ kj2 =>
   have H := HA.out
   clear HA
   simp only [impl_FewestFor.j0] at H
   by_cases c9 : x20_2 = true
   · subst c9
     have H1 : (some (0, false)) = some (r1, r2) := by rw [if_pos rfl] at H; exact H
     clear H
     have H := H1
     clear H1
     simp only [Option.some.injEq, Prod.mk.injEq] at H
     obtain ⟨rfl, rfl⟩ := H
     go_wp2
     go_ret2
     exact ⟨Re, Ub⟩
   replace c9 := Bool.eq_false_iff.mpr c9
   subst c9
   have H1 : (if 0 ≤ (wrap64 (a1 + 1)) then (if (wrap64 (a1 + 1) : Int).toNat ≤ 35184372088832 then ((some (List.replicate (wrap64 (a1 + 1) : Int).toNat 0 : List Int)).bind fun y459 => (impl_FewestFor.l0 kj2 l0 a1 y459 (y459.length : Int) 0)) else (none)) else (none)) = some (r1, r2) := by rw [if_neg (show ¬ (false = true) by decide)] at H; exact H
   clear H
   have H := H1
   clear H1
   obtain ⟨ji10, hji10⟩ : ∃ j_ : Int, (wrap64 (a1 + 1)) = j_ := ⟨_, rfl⟩
   replace H : (if 0 ≤ (ji10) then (if (ji10 : Int).toNat ≤ 35184372088832 then ((some (List.replicate (ji10 : Int).toNat 0 : List Int)).bind fun y459 => (impl_FewestFor.l0 kj2 l0 a1 y459 (y459.length : Int) 0)) else (none)) else (none)) = some (r1, r2) := by first | (rw [hji10] at H; exact H) | (simp only [hji10] at H ⊢; exact H)
   have hji10w : (IntKind.i64.wrap (a1 + 1)) = ji10 := (i64_w _).trans hji10
   replace H := Ic H; rcases H with ⟨c11, H⟩ | ⟨c11, H⟩
   · have c11b0 := eq_true c11
     have c11b1 := decide_eq_true c11
     clear c11
     replace H := Ip H; obtain ⟨c12, H⟩ := H
     have c12b0 := eq_true c12
     have c12b1 := decide_eq_true c12
     clear c12
     obtain ⟨y459, hy459⟩ : ∃ y_ : List Int, y_ = (List.replicate (ji10 : Int).toNat 0) := ⟨_, rfl⟩
     replace H : (impl_FewestFor.l0 kj2 l0 a1 y459 (y459.length : Int) 0) = some (r1, r2) := by first | (rw [hy459]; with_reducible exact H) | (have H2_ := (Option.bind_some _ _).symm.trans H; rw [hy459]; with_reducible exact H2_) | (have H2_ := (Option.bind_some _ _).symm.trans H; with_reducible exact H2_) | with_reducible exact H | (rw [hy459]; exact H) | exact H
     have Ny459 := Aside0.mk hy459
     clear hy459
     have H' := Aside0.mk H
     clear H
     go_wp2_with (first | ((with_reducible refine gate_dst (N := 23) rfl ?_); refine Kd.R_make (Kd.int .i64) _ 3 rfl (N := 23) rfl 24 _ _ rfl ji10 rfl rfl Try.underlying24 (.int .i64 0) 8 info3 rfl (by decide) (by omega) 0 (ok := fun _ => True) (okp := fun _ => True) rfl (fun _ hk => hk) trivial (Oa) (Nat.le_trans (Nat.mul_le_mul_right _ (Oa : ji10.toNat ≤ 35184372088832)) (by omega)) (Below.refl _ _) (Nat.le_refl _) ?_; intro v460 w13 ho14 hb hg_ hnew_; clear hg_ hnew_; (first | rw [← Ny459.out] at ho14 | (simp only [Int.reduceToNat] at ho14; rw [← Ny459.out] at ho14)); have HO461 := Aside0.mk (Kd.R_lower ho14 (below_size Ub)); replace HB := Aside0.mk (below_step Ub hb); clear hb ho14; obtain ⟨Ao15, co15, eo15⟩ := Kd.R_slice HO461.out; subst eo15))
     go_loopg [26] kj2 (fun kq v26 w' => ∃ (x6_2 : List Int) (x26_2 : Int), v26 = .int .i64 x26_2 ∧ Aside0 (impl_FewestFor.l0 kq l0 a1 x6_2 (y459.length : Int) x26_2 = some (r1, r2)) ∧ Aside0 (kq ≤ kj2) ∧ Aside0 (Kd.R (Kd.int .i64) 3 w' w.heap.size (fun _ => True) (.slice Ao15 y459.length co15) x6_2) ∧ Aside0 (Below w.heap.size w w'))
     case atStart => exact ⟨(y459), (0), Rs, H', ⟨Nat.le_refl _⟩, ⟨Rm HO461.out⟩, ⟨Ub⟩⟩
     case round =>
      clear H'
      try clear c9
      try clear c11
      try clear c11b0
      try clear c11b1
      try clear c12
      try clear c12b0
      try clear c12b1
      obtain ⟨x6_2, x26_2, rfl, HA, HK2, HO_6, HB⟩ := hrel
      have hl6_2 := (Kd.R_reads' HO_6.out).1
      rw [hl6_2] at HO_6
      (try simp only [hl6_2])
      cases gk with
      | zero => exact absurd HA.out (by simp [impl_FewestFor.l0])
      | succ k2 =>
       have H := HA.out
       clear HA
       simp only [impl_FewestFor.l0] at H
       replace H := Ic H; rcases H with ⟨c16, H⟩ | ⟨c16, H⟩
       · have c16b0 := decide_eq_true c16
         clear c16
         replace H := Ip H; obtain ⟨c17, H⟩ := H
         have c17b0 := decide_eq_true c17
         clear c17
         replace H := Ip H; obtain ⟨c18, H⟩ := H
         have c18b0 := decide_eq_true c18
         clear c18
         obtain ⟨y462, hy462⟩ : ∃ y_ : List Int, y_ = (x6_2.set (x26_2 : Int).toNat 21) := ⟨_, rfl⟩
         replace H : (impl_FewestFor.l0 k2 l0 a1 y462 (y459.length : Int) (wrap64 (x26_2 + 1))) = some (r1, r2) := by first | (rw [hy462]; with_reducible exact H) | (have H2_ := (Option.bind_some _ _).symm.trans H; rw [hy462]; with_reducible exact H2_) | (have H2_ := (Option.bind_some _ _).symm.trans H; with_reducible exact H2_) | with_reducible exact H | (rw [hy462]; exact H) | exact H
         have Ny462 := Aside0.mk hy462
         clear hy462
         have H' := Aside0.mk H
         clear H
         have p19 : 0 ≤ (x26_2 : Int) := Oa
         have q19 : (x26_2 : Int) < ((x6_2.length : Int) : Int) := Oa
         obtain ⟨go19, co19, eo19, gb19, gl19, cl19, HG19⟩ := Kd.R_form HO_6.out (by omega)
         (first | cases eo19 | (injection eo19 with ea_ en_ ec_; (first | subst ea_ | (injection ea_ with ea_; subst ea_)); subst ec_; clear en_))
         have GB19 := Aside0.mk gb19
         have GG19 := Aside0.mk HG19
         clear gb19 gl19 HG19
         obtain ⟨hx19_0, hf19_0⟩ := Kd.R_celln 0 HO_6.out (x26_2 : Int) p19 q19
         replace p19 := eq_true p19
         replace q19 := eq_true q19
         have HP20 := Kd.R_putg HO_6.out (x26_2 : Int) 21
         go_wp2_with (first | ((with_reducible refine gate_store (t := 3) (p := 31) rfl ?_); refine store_event (t := 3) (p := 31) (v := ?vo_w21) (w1 := (wr.setCell ⟨go19, (x26_2 : Int).toNat, none⟩ (.int .i64 21))) ?hg ?ho ?hn ?hr ?_; (case ho => rfl); (case hg => rfl); (case hn => rfl); (case hr => first | (go_simp; done) | (go_simp; rfl)); intro w21 hw; have hg : wr.grownBy w21 (some go19) := (by rw [hw]; exact HP20.2); have hp_ : Kd.R (Kd.int .i64) 3 w21 w.heap.size (fun _ => True) (.slice (some ⟨go19, 0, none⟩) x6_2.length co15) y462 := (by rw [hw, Ny462.out]; exact HP20.1); clear HP20; replace HO_6 := Aside0.mk (hp_); replace HB := Aside0.mk ((by rw [hw]; exact below_set (HB.out) GB19.out : Below w.heap.size w w21)); clear hg hw hp_))
         (try simp only [← hl6_2])
         go_roundg k2
         case measure => have := HJ2.out; have := HK2.out; omega
         case rel => exact ⟨(y462), (wrap64 (x26_2 + 1)), Rs, H', ⟨by have := HJ2.out; have := HK2.out; omega⟩, ⟨by (try simp only [hl6_2]); (with_reducible repeat (first | apply Kd.R_alloc | apply Kd.R_drewN | apply Kd.R_drew)); exact HO_6.out⟩, ⟨Ub⟩⟩
       have c16b0 := decide_eq_false c16
       (try rw [hl6_2] at c16b0)
       clear c16
       replace H := Ip H; obtain ⟨c22, H⟩ := H
       have c22b0 := decide_eq_true c22
       have c22b1 : decide (0 < x6_2.length) = true := decide_eq_true (by omega)
       clear c22
       obtain ⟨y463, hy463⟩ : ∃ y_ : List Int, y_ = (x6_2.set (0 : Int).toNat 0) := ⟨_, rfl⟩
       replace H : (impl_FewestFor.l1 k2 a1 y463 l0 (l0.length : Int) 0) = some (r1, r2) := by first | (rw [hy463]; with_reducible exact H) | (have H2_ := (Option.bind_some _ _).symm.trans H; rw [hy463]; with_reducible exact H2_) | (have H2_ := (Option.bind_some _ _).symm.trans H; with_reducible exact H2_) | with_reducible exact H | (rw [hy463]; exact H) | exact H
       have Ny463 := Aside0.mk hy463
       clear hy463
       have H' := Aside0.mk H
       clear H
       have p23 : 0 ≤ (0 : Int) := (by omega)
       have q23 : (0 : Int) < ((x6_2.length : Int) : Int) := Oa
       have qi23 : (0 < x6_2.length) = True := eq_true (by omega)
       obtain ⟨go23, co23, eo23, gb23, gl23, cl23, HG23⟩ := Kd.R_form HO_6.out (by omega)
       (first | cases eo23 | (injection eo23 with ea_ en_ ec_; (first | subst ea_ | (injection ea_ with ea_; subst ea_)); subst ec_; clear en_))
       have GB23 := Aside0.mk gb23
       have GG23 := Aside0.mk HG23
       clear gb23 gl23 HG23
       obtain ⟨hx23_0, hf23_0⟩ := Kd.R_celln 0 HO_6.out (0 : Int) p23 q23
       (try rw [show ((0 : Int)).toNat = 0 from rfl] at hx23_0)
       (try simp only [Nat.reduceMul, Nat.zero_mul, Nat.zero_add, Nat.reduceAdd] at hx23_0)
       (try rw [show ((0 : Int)).toNat = 0 from rfl] at hf23_0)
       (try simp only [Nat.reduceMul, Nat.zero_mul, Nat.zero_add, Nat.reduceAdd] at hf23_0)
       replace p23 := eq_true p23
       replace q23 := eq_true q23
       have HP24 := Kd.R_putg HO_6.out (0 : Int) 0
       go_wp2_with (first | ((with_reducible refine gate_store (t := 3) (p := 34) rfl ?_); refine store_event (t := 3) (p := 34) (v := ?vo_w25) (w1 := (wr.setCell ⟨go23, (0 : Int).toNat, none⟩ (.int .i64 0))) ?hg ?ho ?hn ?hr ?_; (case ho => rfl); (case hg => rfl); (case hn => rfl); (case hr => first | (go_simp; done) | (go_simp; rfl)); intro w25 hw; have hg : wr.grownBy w25 (some go23) := (by rw [hw]; exact HP24.2); have hp_ : Kd.R (Kd.int .i64) 3 w25 w.heap.size (fun _ => True) (.slice (some ⟨go23, 0, none⟩) x6_2.length co15) y463 := (by rw [hw, Ny463.out]; exact HP24.1); clear HP24; replace HO_6 := Aside0.mk (hp_); replace HB := Aside0.mk ((by rw [hw]; exact below_set (HB.out) GB23.out : Below w.heap.size w w25)); clear hg hw hp_))
       go_loopg [37] k2 (fun kq v37 w' => ∃ (x6_3 : List Int) (x37_3 : Int), v37 = .int .i64 x37_3 ∧ Aside0 (impl_FewestFor.l1 kq a1 x6_3 l0 (l0.length : Int) x37_3 = some (r1, r2)) ∧ Aside0 (kq ≤ k2) ∧ Aside0 (Kd.R (Kd.int .i64) 3 w' w.heap.size (fun _ => True) (.slice (some ⟨go23, 0, none⟩) x6_2.length co15) x6_3) ∧ Aside0 (Below w.heap.size w w'))
       case atStart => exact ⟨(y463), (0), Rs, H', ⟨Nat.le_refl _⟩, ⟨by (try simp only [hl6_2]); (with_reducible repeat (first | apply Kd.R_alloc | apply Kd.R_drewN | apply Kd.R_drew)); exact HO_6.out⟩, ⟨Ub⟩⟩
       case round =>
        clear H'
        try clear c9
        try clear c11
        try clear c11b0
        try clear c11b1
        try clear c12
        try clear c12b0
        try clear c12b1
        try clear c16
        try clear c16b0
        try clear c17
        try clear c17b0
        try clear c18
        try clear c18b0
        try clear p19
        try clear q19
        try clear c22
        try clear c22b0
        try clear c22b1
        try clear p23
        try clear q23
        try clear qi23
        try clear hx19_0
        try clear hx23_0
        try clear p19
        try clear p23
        try clear q19
        try clear q23
        obtain ⟨x6_3, x37_3, rfl, HA, HK3, HO_6, HB⟩ := hrel
        have hl6_3 := (Kd.R_reads' HO_6.out).1
        rw [hl6_3] at HO_6
        (try simp only [hl6_3])
        cases gk with
        | zero => exact absurd HA.out (by simp [impl_FewestFor.l1])
        | succ k3 =>
         have H := HA.out
         clear HA
         simp only [impl_FewestFor.l1] at H
         replace H := Ic H; rcases H with ⟨c26, H⟩ | ⟨c26, H⟩
         · have c26b0 := decide_eq_true c26
           clear c26
           replace H := Ip H; obtain ⟨c27, H⟩ := H
           have c27b0 := decide_eq_true c27
           clear c27
           replace H := Ip H; obtain ⟨c28, H⟩ := H
           have c28b0 := decide_eq_true c28
           clear c28
           have H' := Aside0.mk H
           clear H
           obtain ⟨p466, q466, ad466, e466, hx466_0⟩ := Ai HR0.out x37_3
           cases e466
           replace hx466_0 := (HB.out.cell (World.block_lt_of_cell? w _ hx466_0)).trans hx466_0
           go_wp2
           go_loopg [10] k3 (fun kq v10 w' => ∃ (x6_4 : List Int) (x10_4 : Int), v10 = .int .i64 x10_4 ∧ Aside0 (impl_FewestFor.l2 kq a1 x6_4 (rd l0 x37_3) x10_4 l0 (l0.length : Int) x37_3 = some (r1, r2)) ∧ Aside0 (kq ≤ k3) ∧ Aside0 (Kd.R (Kd.int .i64) 3 w' w.heap.size (fun _ => True) (.slice (some ⟨go23, 0, none⟩) x6_3.length co15) x6_4) ∧ Aside0 (Below w.heap.size w w'))
           case atStart => exact ⟨(x6_3), (a1), Rs, H', ⟨Nat.le_refl _⟩, ⟨by (try simp only [hl6_2]); (try simp only [hl6_3]); (with_reducible repeat (first | apply Kd.R_alloc | apply Kd.R_drewN | apply Kd.R_drew)); exact HO_6.out⟩, ⟨Ub⟩⟩
           case round =>
            clear H'
            try clear c9
            try clear c11
            try clear c11b0
            try clear c11b1
            try clear c12
            try clear c12b0
            try clear c12b1
            try clear c16
            try clear c16b0
            try clear c17
            try clear c17b0
            try clear c18
            try clear c18b0
            try clear p19
            try clear q19
            try clear c22
            try clear c22b0
            try clear c22b1
            try clear p23
            try clear q23
            try clear qi23
            try clear c26
            try clear c26b0
            try clear c27
            try clear c27b0
            try clear c28
            try clear c28b0
            try clear hx19_0
            try clear hx23_0
            try clear hx466_0
            try clear p19
            try clear p23
            try clear p466
            try clear q19
            try clear q23
            try clear q466
            obtain ⟨x6_4, x10_4, rfl, HA, HK4, HO_6, HB⟩ := hrel
            have hl6_4 := (Kd.R_reads' HO_6.out).1
            rw [hl6_4] at HO_6
            (try simp only [hl6_4])
            cases gk with
            | zero => exact absurd HA.out (by simp [impl_FewestFor.l2])
            | succ k4 =>
             have H := HA.out
             clear HA
             simp only [impl_FewestFor.l2] at H
             replace H := Ic H; rcases H with ⟨c29, H⟩ | ⟨c29, H⟩
             · have c29b0 : decide ((rd l0 x37_3) ≤ x10_4) = true := decide_eq_true c29
               clear c29
               replace H := Ip H; obtain ⟨c30, H⟩ := H
               have c30b0 := decide_eq_true c30
               clear c30
               replace H := Ip H; obtain ⟨c31, H⟩ := H
               have c31b0 := decide_eq_true c31
               clear c31
               obtain ⟨ji32, hji32⟩ : ∃ j_ : Int, (wrap64 (x10_4 - (rd l0 x37_3))) = j_ := ⟨_, rfl⟩
               replace H : (if 0 ≤ (ji32) then (if (ji32) < (x6_4.length : Int) then (impl_FewestFor.l2 k4 a1 (x6_4.set (x10_4 : Int).toNat (mn (rd x6_4 x10_4) (wrap64 ((rd x6_4 (ji32)) + 1)))) (rd l0 x37_3) (wrap64 (x10_4 - 1)) l0 (l0.length : Int) x37_3) else (none)) else (none)) = some (r1, r2) := by first | (rw [hji32] at H; exact H) | (simp only [hji32] at H ⊢; exact H)
               have hji32w : (IntKind.i64.wrap (x10_4 - (rd l0 x37_3))) = ji32 := (i64_w _).trans hji32
               replace H := Ip H; obtain ⟨c33, H⟩ := H
               have c33b0 := decide_eq_true c33
               clear c33
               replace H := Ip H; obtain ⟨c34, H⟩ := H
               have c34b0 := decide_eq_true c34
               clear c34
               obtain ⟨ji35, hji35⟩ : ∃ j_ : Int, (mn (rd x6_4 x10_4) (wrap64 ((rd x6_4 (ji32)) + 1))) = j_ := ⟨_, rfl⟩
               replace H : (impl_FewestFor.l2 k4 a1 (x6_4.set (x10_4 : Int).toNat (ji35)) (rd l0 x37_3) (wrap64 (x10_4 - 1)) l0 (l0.length : Int) x37_3) = some (r1, r2) := by first | (rw [hji35] at H; exact H) | (simp only [hji35] at H ⊢; exact H)
               have hji35_ : (if (wrap64 ((rd x6_4 (ji32)) + 1)) < (rd x6_4 x10_4) then (wrap64 ((rd x6_4 (ji32)) + 1)) else (rd x6_4 x10_4)) = ji35 := hji35
               obtain ⟨y469, hy469⟩ : ∃ y_ : List Int, y_ = (x6_4.set (x10_4 : Int).toNat (ji35)) := ⟨_, rfl⟩
               replace H : (impl_FewestFor.l2 k4 a1 y469 (rd l0 x37_3) (wrap64 (x10_4 - 1)) l0 (l0.length : Int) x37_3) = some (r1, r2) := by first | (rw [hy469]; with_reducible exact H) | (have H2_ := (Option.bind_some _ _).symm.trans H; rw [hy469]; with_reducible exact H2_) | (have H2_ := (Option.bind_some _ _).symm.trans H; with_reducible exact H2_) | with_reducible exact H | (rw [hy469]; exact H) | exact H
               have Ny469 := Aside0.mk hy469
               clear hy469
               have H' := Aside0.mk H
               clear H
               try go_wp2
               replace HO_6 := Aside0.mk (Kd.R_drew HO_6.out); replace HB := Aside0.mk (below_drew1 HB.out)
               have p467 : 0 ≤ (x10_4 : Int) := Oa
               have q467 : x10_4 < (x6_4.length : Int) := Oa
               obtain ⟨ad467, e467, hx467_0⟩ := Kd.at_int (Kd.R_reads' HO_6.out).2.2 x10_4 p467 q467
               obtain rfl : (⟨go23, 0, none⟩ : Addr) = ad467 := (by injection e467)
               (first | simp only [add_plain] at hx467_0 | simp only [add_at] at hx467_0 | simp only [Addr.add, Nat.zero_add] at hx467_0 | skip)
               replace p467 := eq_true p467
               replace q467 := eq_true q467
               have p468 : 0 ≤ ((ji32) : Int) := Oa
               have q468 : (ji32) < (x6_4.length : Int) := Oa
               obtain ⟨ad468, e468, hx468_0⟩ := Kd.at_int (Kd.R_reads' HO_6.out).2.2 (ji32) p468 q468
               obtain rfl : (⟨go23, 0, none⟩ : Addr) = ad468 := (by injection e468)
               (first | simp only [add_plain] at hx468_0 | simp only [add_at] at hx468_0 | simp only [Addr.add, Nat.zero_add] at hx468_0 | skip)
               replace p468 := eq_true p468
               replace q468 := eq_true q468
               have p36 : 0 ≤ (x10_4 : Int) := Oa
               have q36 : (x10_4 : Int) < ((x6_4.length : Int) : Int) := Oa
               obtain ⟨hx36_0, hf36_0⟩ := Kd.R_celln 0 HO_6.out (x10_4 : Int) p36 q36
               replace p36 := eq_true p36
               replace q36 := eq_true q36
               have HP38 := Kd.R_putn HO_6.out (x10_4 : Int) ji35
               rw [← Ny469.out] at HP38
               have HQ38 := Aside0.mk HP38
               clear HP38
               refine start_ (n := 16) (S := fun w' => w'.cell? ⟨go23, (x10_4).toNat, none⟩ = some (.int .i64 (rd x6_4 x10_4)) ∧ w'.cell? ⟨go23, ((ji32)).toNat, none⟩ = some (.int .i64 (rd x6_4 (ji32)))) (ds := [15]) #[false, false, false, false, false, false, false, false, false, false, false, false, false, false, false, false] (by kernel_rfl) rfl rfl ⟨hx467_0, hx468_0⟩ (fun hHeld => ?_); refine with_tabW impl_FewestFor.tab16 impl_FewestFor.bits16 (fun HT_ HW_ => ?_)
               generalize wr.drew = w37 at HO_6 HB HQ38 hf36_0 hx36_0 hx467_0 hx468_0 hHeld ⊢
               refine Pu 0 47 #[true, false, false, false, false, false, false, false, false, false, false, false, false, false, false, false] HT_.out ?_
               refine Pu 1 48 #[true, true, false, false, false, false, false, false, false, false, false, false, false, false, false, false] HT_.out ?_
               refine Pu 2 49 #[true, true, true, false, false, false, false, false, false, false, false, false, false, false, false, false] HT_.out ?_
               refine Pu 3 50 #[true, true, true, true, false, false, false, false, false, false, false, false, false, false, false, false] HT_.out ?_
               refine Pu 4 51 #[true, true, true, true, true, false, false, false, false, false, false, false, false, false, false, false] HT_.out ?_
               refine Pu 6 53 #[true, true, true, true, true, false, true, false, false, false, false, false, false, false, false, false] HT_.out ?_
               refine Pu 7 54 #[true, true, true, true, true, false, true, true, false, false, false, false, false, false, false, false] HT_.out ?_
               refine Pu 8 55 #[true, true, true, true, true, false, true, true, true, false, false, false, false, false, false, false] HT_.out ?_
               refine Pu 9 56 #[true, true, true, true, true, false, true, true, true, true, false, false, false, false, false, false] HT_.out ?_
               refine Pu 10 57 #[true, true, true, true, true, false, true, true, true, true, true, false, false, false, false, false] HT_.out ?_
               refine take_ (i := 5) (N := some 52) (v := ?_) (a' := ?_) #[true, true, true, true, true, true, true, true, true, true, true, false, false, false, false, false] rfl rfl (take_ofW HT_.out HW_.out (by kernel_rfl)) (fun _ _ _ h => h) (Or.inl ⟨by rfl, ?_⟩) hHeld ?_ ?_
               rotate_left
               · rintro w' ⟨s0, s1⟩
                 go_simp
                 with_reducible rfl
               rotate_left
               · simp only [Act.put, List.setIfInBounds_toArray, List.set_cons_zero, List.set_cons_succ, i64_w, i32_w]
                 rfl
               refine take_ (i := 11) (N := some 58) (v := ?_) (a' := ?_) #[true, true, true, true, true, true, true, true, true, true, true, true, false, false, false, false] rfl rfl (take_ofW HT_.out HW_.out (by kernel_rfl)) (fun _ _ _ h => h) (Or.inl ⟨by rfl, ?_⟩) hHeld ?_ ?_
               rotate_left
               · rintro w' ⟨s0, s1⟩
                 go_simp
                 with_reducible rfl
               rotate_left
               · simp only [Act.put, List.setIfInBounds_toArray, List.set_cons_zero, List.set_cons_succ, i64_w, i32_w]
                 rfl
               refine Pu 12 59 #[true, true, true, true, true, true, true, true, true, true, true, true, true, false, false, false] HT_.out ?_
               refine Pu 13 60 #[true, true, true, true, true, true, true, true, true, true, true, true, true, true, false, false] HT_.out ?_
               refine Pu 14 61 #[true, true, true, true, true, true, true, true, true, true, true, true, true, true, true, false] HT_.out ?_
               refine last_ (i := 15) (N := none) #[true, true, true, true, true, true, true, true, true, true, true, true, true, true, true, true] rfl rfl (one_of HT_.out (by kernel_rfl)) (by decide) (fun K hK => ?_)
               refine skip_ (w1 := ?_) (by rfl) rfl ?_ ?_
               rotate_left
               · go_simp
                 rfl
               refine hK.out _ _ ?_
               clear hK K
               refine done_ (done_of HT_.out (by kernel_rfl)) ?_
               try go_wp2
               (try simp only [← hl6_4])
               go_roundg k4
               case measure => have := HJ2.out; have := HK2.out; have := HK3.out; have := HK4.out; omega
               case rel => exact ⟨(y469), (wrap64 (x10_4 - 1)), Rs, H', ⟨by have := HJ2.out; have := HK2.out; have := HK3.out; have := HK4.out; omega⟩, ⟨by (try simp only [hl6_2]); (try simp only [hl6_3]); (try simp only [hl6_4]); (with_reducible repeat (first | apply Kd.R_alloc | apply Kd.R_drewN | apply Kd.R_drew)); exact HQ38.out⟩, ⟨by repeat (first | (with_reducible first | exact HB.out | apply below_alloc | apply pw_below_drewN | apply below_drew1 | refine below_set ?_ GB23.out) | exact HB.out)⟩⟩
             have c29b0 : decide ((rd l0 x37_3) ≤ x10_4) = false := decide_eq_false c29
             clear c29
             have H' := Aside0.mk H
             clear H
             go_wp2
             (try simp only [← hl6_3, ← hl6_4])
             go_roundg k4
             case measure => have := HJ2.out; have := HK2.out; have := HK3.out; have := HK4.out; omega
             case rel => exact ⟨(x6_4), (wrap64 (x37_3 + 1)), Rs, H', ⟨by have := HJ2.out; have := HK2.out; have := HK3.out; have := HK4.out; omega⟩, ⟨by (try simp only [hl6_2]); (try simp only [hl6_3]); (try simp only [hl6_4]); (with_reducible repeat (first | apply Kd.R_alloc | apply Kd.R_drewN | apply Kd.R_drew)); exact HO_6.out⟩, ⟨Ub⟩⟩
         have c26b0 := decide_eq_false c26
         (try rw [hl6_4] at c26b0)
         clear c26
         replace H := Ip H; obtain ⟨c39, H⟩ := H
         have c39b0 := decide_eq_true c39
         clear c39
         replace H := Ip H; obtain ⟨c40, H⟩ := H
         have c40b0 := decide_eq_true c40
         clear c40
         replace H := Ic H; rcases H with ⟨c41, H⟩ | ⟨c41, H⟩
         · have c41b0 : decide (21 ≤ (rd x6_3 a1)) = true := decide_eq_true c41
           clear c41
           simp only [Option.some.injEq, Prod.mk.injEq] at H
           obtain ⟨rfl, rfl⟩ := H
           have p464 : 0 ≤ (a1 : Int) := Oa
           have q464 : a1 < (x6_3.length : Int) := Oa
           obtain ⟨ad464, e464, hx464_0⟩ := Kd.at_int (Kd.R_reads' HO_6.out).2.2 a1 p464 q464
           obtain rfl : (⟨go23, 0, none⟩ : Addr) = ad464 := (by injection e464)
           (first | simp only [add_plain] at hx464_0 | simp only [add_at] at hx464_0 | simp only [Addr.add, Nat.zero_add] at hx464_0 | skip)
           replace p464 := eq_true p464
           replace q464 := eq_true q464
           go_wp2
           go_ret2
           exact ⟨by first | rfl | (simp [errW_none, errW_some] <;> rfl) | (simp only [← hji10]; first | rfl | (simp [errW_none, errW_some] <;> rfl)) | (simp [*, errW_none, errW_some] <;> rfl), Ub⟩
         have c41b0 : decide (21 ≤ (rd x6_3 a1)) = false := decide_eq_false c41
         clear c41
         simp only [Option.some.injEq, Prod.mk.injEq] at H
         obtain ⟨rfl, rfl⟩ := H
         have p464 : 0 ≤ (a1 : Int) := Oa
         have q464 : a1 < (x6_3.length : Int) := Oa
         obtain ⟨ad464, e464, hx464_0⟩ := Kd.at_int (Kd.R_reads' HO_6.out).2.2 a1 p464 q464
         obtain rfl : (⟨go23, 0, none⟩ : Addr) = ad464 := (by injection e464)
         (first | simp only [add_plain] at hx464_0 | simp only [add_at] at hx464_0 | simp only [Addr.add, Nat.zero_add] at hx464_0 | skip)
         replace p464 := eq_true p464
         replace q464 := eq_true q464
         have p465 : 0 ≤ (a1 : Int) := Oa
         have q465 : a1 < (x6_3.length : Int) := Oa
         obtain ⟨ad465, e465, hx465_0⟩ := Kd.at_int (Kd.R_reads' HO_6.out).2.2 a1 p465 q465
         obtain rfl : (⟨go23, 0, none⟩ : Addr) = ad465 := (by injection e465)
         (first | simp only [add_plain] at hx465_0 | simp only [add_at] at hx465_0 | simp only [Addr.add, Nat.zero_add] at hx465_0 | skip)
         replace p465 := eq_true p465
         replace q465 := eq_true q465
         go_wp2
         go_ret2
         exact ⟨by first | rfl | (simp [errW_none, errW_some] <;> rfl) | (simp only [← hji10]; first | rfl | (simp [errW_none, errW_some] <;> rfl)) | (simp [*, errW_none, errW_some] <;> rfl), Ub⟩
   exact absurd H (by simp)

end Go.Proofs.Ytkbllhlmcfjcdaa.PFnSumsMade
