-- MADE FOR THIS CLAIM by wip/xp/xprint.py (with the kit's print; some functions' contracts proved by hand)
import Derived.Test.YtkbllhlmcfjcdaaPFnSumsMadex0
import Derived.Test.YtkbllhlmcfjcdaaPFnSumsMadex1
import Derived.Test.YtkbllhlmcfjcdaaPFnSumsMadex3
import Derived.Test.YtkbllhlmcfjcdaaPFnSumsMadex4
import Derived.Test.YtkbllhlmcfjcdaaPFnSumsMadex5
import Derived.Test.YtkbllhlmcfjcdaaPFnSumsMadex8
set_option maxHeartbeats 8000000
set_option maxRecDepth 100000
namespace Go.Proofs.Ytkbllhlmcfjcdaa.PFnSumsMade
open Go.RowKit Go.Proofs.YtkbllhlmcfjcdaaW.PrintWords Go.Proofs.YtkbllhlmcfjcdaaW.PrintLast Go.Proofs.YtkbllhlmcfjcdaaW.PrintMore Go.Proofs.Ytkbllhlmcfjcdaa.Xmv
attribute [local go_sem] max2_int min2_int max_two min_two max_three min_three max_four min_four   -- for this text's walks alone
set_option linter.unusedVariables false
set_option linter.unusedSimpArgs false

/-! ### impl_HalfOf: function 35 -/
def impl_HalfOf.j0 : Nat → List Int → Bool → Option (List Int × Bool)
 | 0, _, _ => none
 | k + 1, x0, x12 => if x12 = true then (some (([] : List Int), false)) else ((impl_total.f k x0).bind fun t373 => ((impl_firstWay.f k x0 (wrap64 (Int.tdiv t373 2))).bind fun bt374 => (some (bt374.1, bt374.2))))
def impl_HalfOf.f (k : Nat) (l0 : List Int) : Option (List Int × Bool) := (impl_ArePieces.f k l0).bind fun t371 => (if t371 = true then ((impl_total.f k l0).bind fun t372 => (impl_HalfOf.j0 k l0 ((Int.tmod t372 2) == 1))) else (impl_HalfOf.j0 k l0 true))
theorem impl_HalfOf.calls (k : Nat) (A0 : Option Addr) (c0 : Nat) (l0 : List Int) (r1 : List Int) (r2 : Bool) (w : World) (hr0 : Kd.C (Kd.int .i64) w A0 l0.length l0) (hc0 : l0.length ≤ c0) (h : impl_HalfOf.f k l0 = some (r1, r2)) :
 Calls Try.prog 35 #[.slice A0 l0.length c0] w fun e w' => ∃ v0_ : Value, e = .returned (.tuple #[v0_, .bool r2]) ∧ Kd.R (Kd.int .i64) 3 w' w.heap.size (fun _ => True) v0_ r1 ∧ Below w.heap.size w w' := by
 have HR0 := Aside0.mk hr0
 have HC0 := Aside0.mk hc0
 clear hr0 hc0
 have HB := Aside0.mk (Below.refl w.heap.size w)
 have H := h; unfold impl_HalfOf.f at H
 clear h
 have HC2 := Aside0.mk H
 clear H
 go_enter Try.func35, Try.ntmps35
 go_upto_region 1 with (fail)
 go_cut [12] (fun v12 wc => ∃ (kq : Nat) (x12_1 : Bool), v12 = .bool x12_1 ∧ Aside0 (impl_HalfOf.j0 kq l0 x12_1 = some (r1, r2)) ∧ Aside0 (kq ≤ k) ∧ Aside0 (Below w.heap.size w wc))
 case first =>
  have H := HC2.out
  clear HC2
  replace H := Option.bind_eq_some_iff.mp H
  obtain ⟨t371, A30, H⟩ := H
  have A3 := Aside0.mk A30
  clear A30
  replace H := Iw H; rcases H with ⟨rfl, H⟩ | ⟨rfl, H⟩
  · replace H := Option.bind_eq_some_iff.mp H
    obtain ⟨t372, A50, H⟩ := H
    have A5 := Aside0.mk A50
    clear A50
    have H' := Aside0.mk H
    clear H
    go_wp2_with (first | (refine Gl 5 #[.slice A0 l0.length c0] Try.func37 ?_; (with_reducible refine (impl_ArePieces.calls k _ _ l0 true _ (Cm (Kd.C_below HR0.out HB.out)) HC0.out A3.out).mono ?_); rintro e w6 ⟨rfl, hb⟩; refine ⟨_, rfl, ?_⟩; replace HB := Aside0.mk (below_step Ub hb); clear hb) | (go_at_call 75; (with_reducible refine (impl_total.calls k _ _ l0 t372 _ (Cm (Kd.C_below HR0.out HB.out)) HC0.out A5.out).mono ?_); rintro e w' ⟨rfl, ⟨nd, rfl⟩⟩))
    go_meet
    case rel => exact ⟨_, (((Int.tmod t372 2) == 1)), Rs, H', ⟨by first | omega | exact Nat.le_refl _⟩, ⟨Ub⟩⟩
  have H' := Aside0.mk H
  clear H
  go_wp2_with (first | (refine Gl 5 #[.slice A0 l0.length c0] Try.func37 ?_; (with_reducible refine (impl_ArePieces.calls k _ _ l0 false _ (Cm (Kd.C_below HR0.out HB.out)) HC0.out A3.out).mono ?_); rintro e w7 ⟨rfl, hb⟩; refine ⟨_, rfl, ?_⟩; replace HB := Aside0.mk (below_step Ub hb); clear hb))
  go_meet
  case rel => exact ⟨_, (true), Rs, H', ⟨by first | omega | exact Nat.le_refl _⟩, ⟨Ub⟩⟩
 case rest =>
  clear HC2
  obtain ⟨kq, x12_1, rfl, HA, HJ1, HB⟩ := hcut
  cases kq with
  | zero => exact absurd HA.out (by simp [impl_HalfOf.j0])
  | succ kj1 =>
   have H := HA.out
   clear HA
   simp only [impl_HalfOf.j0] at H
   by_cases c8 : x12_1 = true
   · subst c8
     have H1 : (some (([] : List Int), false)) = some (r1, r2) := by rw [if_pos rfl] at H; exact H
     clear H
     have H := H1
     clear H1
     simp only [Option.some.injEq, Prod.mk.injEq] at H
     obtain ⟨rfl, rfl⟩ := H
     go_wp2
     go_ret2
     exact ⟨_, Re, Nl, Ub⟩
   replace c8 := Bool.eq_false_iff.mpr c8
   subst c8
   have H1 : ((impl_total.f kj1 l0).bind fun t373 => ((impl_firstWay.f kj1 l0 (wrap64 (Int.tdiv t373 2))).bind fun bt374 => (some (bt374.1, bt374.2)))) = some (r1, r2) := by rw [if_neg (show ¬ (false = true) by decide)] at H; exact H
   clear H
   have H := H1
   clear H1
   replace H := Option.bind_eq_some_iff.mp H
   obtain ⟨t373, A90, H⟩ := H
   have A9 := Aside0.mk A90
   clear A90
   replace H := Option.bind_eq_some_iff.mp H
   obtain ⟨⟨t374, t375⟩, A100, H⟩ := H
   have A10 := Aside0.mk A100
   clear A100
   simp only [Option.some.injEq, Prod.mk.injEq] at H
   obtain ⟨rfl, rfl⟩ := H
   go_wp2_with (first | (refine Gl 15 #[.slice A0 l0.length c0] Try.func75 ?_; (with_reducible refine (impl_total.calls kj1 _ _ l0 t373 _ (Cm (Kd.C_below HR0.out HB.out)) HC0.out A9.out).mono ?_); rintro e w' ⟨rfl, ⟨nd, rfl⟩⟩; refine ⟨_, rfl, ?_⟩) | (refine Gl 17 #[.slice A0 l0.length c0, .int .i64 (wrap64 (Int.tdiv t373 2))] Try.func79 ?_; (with_reducible refine (impl_firstWay.calls kj1 _ _ l0 (wrap64 (Int.tdiv t373 2)) t374 t375 _ (Cm (Kd.C_below HR0.out Ub)) HC0.out A10.out).mono ?_); rintro e w11 ⟨v376, rfl, ho0, hb⟩; refine ⟨_, rfl, ?_⟩; have HO377 := Aside0.mk (Kd.R_lower ho0 (below_size Ub)); replace HB := Aside0.mk (below_step Ub hb); clear hb ho0))
   go_ret2
   exact ⟨_, Re, Rm HO377.out, Ub⟩

/-! ### spec_piMake: function 80 -/
def spec_piMake.f (k : Nat) (l0 : List Int) (a1 : Int) : Option (Int) := (spec_piWays.f k l0).bind fun t378 => (if a1 ≥ (t378.length : Int) then (some 0) else (if 0 ≤ a1 then (if a1 < (t378.length : Int) then (some (rd t378 a1)) else (none)) else (none)))
theorem spec_piMake.calls (k : Nat) (A0 : Option Addr) (c0 : Nat) (l0 : List Int) (a1 : Int) (r : Int) (w : World) (hr0 : Kd.C (Kd.int .i64) w A0 l0.length l0) (hc0 : l0.length ≤ c0) (h : spec_piMake.f k l0 a1 = some r) :
 Calls Try.prog 80 #[.slice A0 l0.length c0, .int .i64 a1] w fun e w' => e = .returned (.int .i64 r) ∧ Below w.heap.size w w' := by
 have HR0 := Aside0.mk hr0
 have HC0 := Aside0.mk hc0
 clear hr0 hc0
 have HB := Aside0.mk (Below.refl w.heap.size w)
 have H := h; unfold spec_piMake.f at H
 clear h
 replace H := Option.bind_eq_some_iff.mp H
 obtain ⟨t378, A30, H⟩ := H
 have A3 := Aside0.mk A30
 clear A30
 replace H := Ic H; rcases H with ⟨c4, H⟩ | ⟨c4, H⟩
 · have c4b0 : decide ((t378.length : Int) ≤ a1) = true := decide_eq_true c4
   clear c4
   obtain rfl := Option.some.inj H
   go_enter Try.func80, Try.ntmps80
   go_wp2_with (first | (refine Gl 7 #[.slice A0 l0.length c0] Try.func77 ?_; (with_reducible refine (spec_piWays.calls k _ _ l0 t378 _ (Cm HR0.out) HC0.out A3.out).mono ?_); rintro e w5 ⟨v379, rfl, ho0, hb⟩; refine ⟨_, rfl, ?_⟩; have HO380 := Aside0.mk (Kd.R_lower ho0 (below_size Ub)); replace HB := Aside0.mk (below_step Ub hb); clear hb ho0; obtain ⟨Ao6, co6, eo6⟩ := Kd.R_slice HO380.out; subst eo6))
   go_ret
   exact ⟨Re, Ub⟩
 have c4b0 : decide ((t378.length : Int) ≤ a1) = false := decide_eq_false c4
 clear c4
 replace H := Ic H; rcases H with ⟨c7, H⟩ | ⟨c7, H⟩
 · have c7b0 := decide_eq_true c7
   clear c7
   replace H := Ip H; obtain ⟨c8, H⟩ := H
   have c8b0 := decide_eq_true c8
   clear c8
   obtain rfl := Option.some.inj H
   go_enter Try.func80, Try.ntmps80
   go_wp2_with (first | (refine Gl 7 #[.slice A0 l0.length c0] Try.func77 ?_; (with_reducible refine (spec_piWays.calls k _ _ l0 t378 _ (Cm HR0.out) HC0.out A3.out).mono ?_); rintro e w9 ⟨v379, rfl, ho0, hb⟩; refine ⟨_, rfl, ?_⟩; have HO380 := Aside0.mk (Kd.R_lower ho0 (below_size Ub)); replace HB := Aside0.mk (below_step Ub hb); clear hb ho0; obtain ⟨Ao10, co10, eo10⟩ := Kd.R_slice HO380.out; subst eo10; have p381 : 0 ≤ (a1 : Int) := Oa; have q381 : a1 < (t378.length : Int) := Oa; obtain ⟨ad381, e381, hx381_0⟩ := Kd.at_int (Kd.R_reads' HO380.out).2.2 a1 p381 q381; cases e381; replace p381 := eq_true p381; replace q381 := eq_true q381))
   go_ret
   exact ⟨Re, Ub⟩
 exact absurd H (by simp)

/-! ### spec_piFirst: function 81 -/
def spec_piFirst.l0 : Nat → List Int → Int → List Int → List Int → Int → Int → Option (List Int)
 | 0, _, _, _, _, _, _ => none
 | k + 1, x0, x1, x5, x8, x9, x10 => if x10 < x9 then (if 0 ≤ x10 then (if x10 < (x8.length : Int) then (if x1 ≥ (rd x8 x10) then (if 0 ≤ (wrap64 (x10 + 1)) then (if (wrap64 (x10 + 1)) ≤ (x0.length : Int) then ((spec_piMake.f k (x0.drop ((wrap64 (x10 + 1)) : Int).toNat) (wrap64 (x1 - (rd x8 x10)))).bind fun t384 => (if t384 > 0 then (if x5.length < 17592186044416 then (spec_piFirst.l0 k x0 (wrap64 (x1 - (rd x8 x10))) (x5 ++ [x10]) x8 x9 (wrap64 (x10 + 1))) else (none)) else (spec_piFirst.l0 k x0 x1 x5 x8 x9 (wrap64 (x10 + 1))))) else (none)) else (none)) else (spec_piFirst.l0 k x0 x1 x5 x8 x9 (wrap64 (x10 + 1)))) else (none)) else (none)) else (some x5)
def spec_piFirst.f (k : Nat) (l0 : List Int) (a1 : Int) : Option (List Int) := spec_piFirst.l0 k l0 a1 ([] : List Int) l0 (l0.length : Int) 0
theorem spec_piFirst.calls (k : Nat) (A0 : Option Addr) (c0 : Nat) (l0 : List Int) (a1 : Int) (r : List Int) (w : World) (hr0 : Kd.C (Kd.int .i64) w A0 l0.length l0) (hc0 : l0.length ≤ c0) (h : spec_piFirst.f k l0 a1 = some r) :
 Calls Try.prog 81 #[.slice A0 l0.length c0, .int .i64 a1] w fun e w' => ∃ v0_ : Value, e = .returned (v0_) ∧ Kd.R (Kd.int .i64) 3 w' w.heap.size (fun _ => True) v0_ r ∧ Below w.heap.size w w' := by
 have HR0 := Aside0.mk hr0
 have HC0 := Aside0.mk hc0
 clear hr0 hc0
 have HB := Aside0.mk (Below.refl w.heap.size w)
 have H := h; unfold spec_piFirst.f at H
 clear h
 have H' := Aside0.mk H
 clear H
 go_enter Try.func81, Try.ntmps81
 go_wp2
 go_loopg [1, 5, 10] k (fun kq v1 v5 v10 w' => ∃ (x1_1 : Int) (x5_1 : List Int) (x10_1 : Int), v1 = .int .i64 x1_1 ∧ v10 = .int .i64 x10_1 ∧ Aside0 (spec_piFirst.l0 kq l0 x1_1 x5_1 l0 (l0.length : Int) x10_1 = some r) ∧ Aside0 (kq ≤ k) ∧ Aside0 (Kd.R (Kd.int .i64) 3 w' w.heap.size (fun _ => True) v5 x5_1) ∧ Aside0 (Below w.heap.size w w'))
 case atStart => exact ⟨(a1), (([] : List Int)), (0), Rs, Rs, H', ⟨Nat.le_refl _⟩, ⟨Nl⟩, ⟨Ub⟩⟩
 case round =>
  clear H'
  obtain ⟨x1_1, x5_1, x10_1, rfl, rfl, HA, HK1, HO_5, HB⟩ := hrel
  cases gk with
  | zero => exact absurd HA.out (by simp [spec_piFirst.l0])
  | succ k1 =>
   have H := HA.out
   clear HA
   simp only [spec_piFirst.l0] at H
   replace H := Ic H; rcases H with ⟨c3, H⟩ | ⟨c3, H⟩
   · have c3b0 := decide_eq_true c3
     clear c3
     replace H := Ip H; obtain ⟨c4, H⟩ := H
     have c4b0 := decide_eq_true c4
     clear c4
     replace H := Ip H; obtain ⟨c5, H⟩ := H
     have c5b0 := decide_eq_true c5
     clear c5
     replace H := Ic H; rcases H with ⟨c6, H⟩ | ⟨c6, H⟩
     · have c6b0 : decide ((rd l0 x10_1) ≤ x1_1) = true := decide_eq_true c6
       clear c6
       obtain ⟨ji7, hji7⟩ : ∃ j_ : Int, (wrap64 (x10_1 + 1)) = j_ := ⟨_, rfl⟩
       replace H : (if 0 ≤ (ji7) then (if (ji7) ≤ (l0.length : Int) then ((spec_piMake.f k1 (l0.drop ((ji7) : Int).toNat) (wrap64 (x1_1 - (rd l0 x10_1)))).bind fun t384 => (if t384 > 0 then (if x5_1.length < 17592186044416 then (spec_piFirst.l0 k1 l0 (wrap64 (x1_1 - (rd l0 x10_1))) (x5_1 ++ [x10_1]) l0 (l0.length : Int) ji7) else (none)) else (spec_piFirst.l0 k1 l0 x1_1 x5_1 l0 (l0.length : Int) ji7))) else (none)) else (none)) = some r := by first | (rw [hji7] at H; exact H) | (simp only [hji7] at H ⊢; exact H)
       have hji7w : (IntKind.i64.wrap (x10_1 + 1)) = ji7 := (i64_w _).trans hji7
       replace H := Ip H; obtain ⟨c8, H⟩ := H
       have c8b0 := eq_true c8
       have c8b1 := decide_eq_true c8
       clear c8
       replace H := Ip H; obtain ⟨c9, H⟩ := H
       have c9b0 := eq_true c9
       have c9b1 := decide_eq_true c9
       clear c9
       replace H := Option.bind_eq_some_iff.mp H
       obtain ⟨t384, A100, H⟩ := H
       have A10 := Aside0.mk A100
       clear A100
       replace H := Ic H; rcases H with ⟨c11, H⟩ | ⟨c11, H⟩
       · have c11b0 : decide (0 < t384) = true := decide_eq_true c11
         clear c11
         replace H := Ip H; obtain ⟨c12, H⟩ := H
         have LMc12 := Aside0.mk c12
         clear c12
         obtain ⟨y385, hy385⟩ : ∃ y_ : List Int, y_ = (x5_1 ++ [x10_1]) := ⟨_, rfl⟩
         replace H : (spec_piFirst.l0 k1 l0 (wrap64 (x1_1 - (rd l0 x10_1))) y385 l0 (l0.length : Int) ji7) = some r := by first | (rw [hy385]; with_reducible exact H) | (have H2_ := (Option.bind_some _ _).symm.trans H; rw [hy385]; with_reducible exact H2_) | (have H2_ := (Option.bind_some _ _).symm.trans H; with_reducible exact H2_) | with_reducible exact H | (rw [hy385]; exact H) | exact H
         have Ny385 := Aside0.mk hy385
         clear hy385
         have H' := Aside0.mk H
         clear H
         obtain ⟨p382, q382, ad382, e382, hx382_0⟩ := Ai HR0.out x10_1
         cases e382
         replace hx382_0 := (HB.out.cell (World.block_lt_of_cell? w _ hx382_0)).trans hx382_0
         obtain ⟨i013, hi013, _, hsz13, _⟩ := info_parts info3
         obtain ⟨A13, hcut13, hA13, hC13⟩ := print_drop_of (P := Try.prog) (Value.int .i64) 0 24 3 .i64 Try.underlying24 hi013 hsz13 (some ad382) c0 l0 (ji7) (Oa) (Oa) HC0.out
         have HR383 := Aside0.mk (show Kd.C (Kd.int .i64) _ A13 _ (l0.drop (ji7 : Int).toNat) from Kd.C_of_reads (h1 := fun _ => rfl) (hA13 _ (Kd.reads_of_C HR0.out)))
         have HC383 := Aside0.mk hC13
         clear hA13 hC13 hi013 hsz13
         go_wp2_with (first | (go_at_call 80; rw [← List.length_drop]; (with_reducible refine (spec_piMake.calls k1 _ _ (l0.drop ((ji7) : Int).toNat) (wrap64 (x1_1 - (rd l0 x10_1))) t384 _ (Cm (Kd.C_below HR383.out HB.out)) HC383.out A10.out).mono ?_); rintro e w14 ⟨rfl, hb⟩; replace HO_5 := Aside0.mk (Kd.R_below (Rm HO_5.out) hb); replace HB := Aside0.mk (below_step Ub hb); clear hb) | ((with_reducible refine gate_builtin (b := .append) (xs := #[.tmp 29, .tmp 31]) rfl ?_); at_builtin; refine Kd.R_append (Kd.int .i64) (w0 := w) w.heap.size rfl (.tmp 29) (.tmp 31) 24 3 (.int .i64 0) 8 rfl Try.underlying24 info3 rfl (by decide) (by omega) u5 x5_1 x10_1 [.int .i64 x10_1] (fun _ => True) (fun _ => False) rfl rfl ?aP (fun _ hk => hk.elim) ?aF ?aO ?aB ?aS ?aL ?_; (case aP => exact rfl); (case aB => exact Ub); (case aF => exact (fun _ _ => trivial)); (case aO => exact (Rm HO_5.out)); (case aS => exact (below_size Ub)); (case aL => have := LMc12.out; omega); intro v386 w15 ho hb hg hat; rw [← Ny385.out] at ho; replace HB := Aside0.mk (hb); have HO387 := Aside0.mk (ho); clear HO_5; clear ho hb hg hat))
         go_roundg k1
         case measure => have := HK1.out; omega
         case rel => exact ⟨(wrap64 (x1_1 - (rd l0 x10_1))), (y385), (ji7), Rs, (by first | rfl | (simp; done) | (simp only [← hji7] <;> (first | rfl | simp)) | (simp [*]; done)), H', ⟨by have := HK1.out; omega⟩, ⟨Rm HO387.out⟩, ⟨Ub⟩⟩
       have c11b0 : decide (0 < t384) = false := decide_eq_false c11
       clear c11
       have H' := Aside0.mk H
       clear H
       obtain ⟨p382, q382, ad382, e382, hx382_0⟩ := Ai HR0.out x10_1
       cases e382
       replace hx382_0 := (HB.out.cell (World.block_lt_of_cell? w _ hx382_0)).trans hx382_0
       obtain ⟨i016, hi016, _, hsz16, _⟩ := info_parts info3
       obtain ⟨A16, hcut16, hA16, hC16⟩ := print_drop_of (P := Try.prog) (Value.int .i64) 0 24 3 .i64 Try.underlying24 hi016 hsz16 (some ad382) c0 l0 (ji7) (Oa) (Oa) HC0.out
       have HR383 := Aside0.mk (show Kd.C (Kd.int .i64) _ A16 _ (l0.drop (ji7 : Int).toNat) from Kd.C_of_reads (h1 := fun _ => rfl) (hA16 _ (Kd.reads_of_C HR0.out)))
       have HC383 := Aside0.mk hC16
       clear hA16 hC16 hi016 hsz16
       go_wp2_with (first | (go_at_call 80; rw [← List.length_drop]; (with_reducible refine (spec_piMake.calls k1 _ _ (l0.drop ((ji7) : Int).toNat) (wrap64 (x1_1 - (rd l0 x10_1))) t384 _ (Cm (Kd.C_below HR383.out HB.out)) HC383.out A10.out).mono ?_); rintro e w17 ⟨rfl, hb⟩; replace HO_5 := Aside0.mk (Kd.R_below (Rm HO_5.out) hb); replace HB := Aside0.mk (below_step Ub hb); clear hb))
       go_roundg k1
       case measure => have := HK1.out; omega
       case rel => exact ⟨(x1_1), (x5_1), (ji7), Rs, (by first | rfl | (simp; done) | (simp only [← hji7] <;> (first | rfl | simp)) | (simp [*]; done)), H', ⟨by have := HK1.out; omega⟩, ⟨Rm HO_5.out⟩, ⟨Ub⟩⟩
     have c6b0 : decide ((rd l0 x10_1) ≤ x1_1) = false := decide_eq_false c6
     clear c6
     have H' := Aside0.mk H
     clear H
     obtain ⟨p382, q382, ad382, e382, hx382_0⟩ := Ai HR0.out x10_1
     cases e382
     replace hx382_0 := (HB.out.cell (World.block_lt_of_cell? w _ hx382_0)).trans hx382_0
     go_wp2
     go_roundg k1
     case measure => have := HK1.out; omega
     case rel => exact ⟨(x1_1), (x5_1), (wrap64 (x10_1 + 1)), Rs, Rs, H', ⟨by have := HK1.out; omega⟩, ⟨Rm HO_5.out⟩, ⟨Ub⟩⟩
   have c3b0 := decide_eq_false c3
   clear c3
   obtain rfl := Option.some.inj H
   go_wp2
   go_ret
   exact ⟨_, Re, Rm HO_5.out, Ub⟩

/-! ### spec_HalfOf: function 36 -/
def spec_HalfOf.j0 : Nat → List Int → Bool → Option (List Int × Bool)
 | 0, _, _ => none
 | k + 1, x0, x20 => if x20 = true then (some (([] : List Int), false)) else ((spec_piSum.f k x0).bind fun t392 => ((spec_piFirst.f k x0 (wrap64 (Int.tdiv t392 2))).bind fun t393 => (some (t393, true))))
def spec_HalfOf.f (k : Nat) (l0 : List Int) : Option (List Int × Bool) := (spec_piGood.f k l0).bind fun t388 => (if t388 = true then ((spec_piSum.f k l0).bind fun t389 => (if (Int.tmod t389 2) = 0 then ((spec_piSum.f k l0).bind fun t390 => ((spec_piMake.f k l0 (wrap64 (Int.tdiv t390 2))).bind fun t391 => (spec_HalfOf.j0 k l0 (t391 == 0)))) else (spec_HalfOf.j0 k l0 true))) else (spec_HalfOf.j0 k l0 true))
theorem spec_HalfOf.calls (k : Nat) (A0 : Option Addr) (c0 : Nat) (l0 : List Int) (r1 : List Int) (r2 : Bool) (w : World) (hr0 : Kd.C (Kd.int .i64) w A0 l0.length l0) (hc0 : l0.length ≤ c0) (h : spec_HalfOf.f k l0 = some (r1, r2)) :
 Calls Try.prog 36 #[.slice A0 l0.length c0] w fun e w' => ∃ v0_ : Value, e = .returned (.tuple #[v0_, .bool r2]) ∧ Kd.R (Kd.int .i64) 3 w' w.heap.size (fun _ => True) v0_ r1 ∧ Below w.heap.size w w' := by
 have HR0 := Aside0.mk hr0
 have HC0 := Aside0.mk hc0
 clear hr0 hc0
 have HB := Aside0.mk (Below.refl w.heap.size w)
 have H := h; unfold spec_HalfOf.f at H
 clear h
 have HC2 := Aside0.mk H
 clear H
 go_enter Try.func36, Try.ntmps36
 go_upto_region 1 with (fail)
 go_cut [20] (fun v20 wc => ∃ (kq : Nat) (x20_1 : Bool), v20 = .bool x20_1 ∧ Aside0 (spec_HalfOf.j0 kq l0 x20_1 = some (r1, r2)) ∧ Aside0 (kq ≤ k) ∧ Aside0 (Below w.heap.size w wc))
 case first =>
  have H := HC2.out
  clear HC2
  replace H := Option.bind_eq_some_iff.mp H
  obtain ⟨t388, A30, H⟩ := H
  have A3 := Aside0.mk A30
  clear A30
  replace H := Iw H; rcases H with ⟨rfl, H⟩ | ⟨rfl, H⟩
  · replace H := Option.bind_eq_some_iff.mp H
    obtain ⟨t389, A50, H⟩ := H
    have A5 := Aside0.mk A50
    clear A50
    replace H := Ic H; rcases H with ⟨c6, H⟩ | ⟨c6, H⟩
    · have c6b0 : ((Int.tmod t389 2) == 0) = true := beq_iff_eq.mpr c6
      have c6b1 := bne_eq_false_iff_eq.mpr c6
      clear c6
      (first | rw [c6b0] | (simp only [i64_w, i32_w]; rw [c6b0]) | skip)
      replace H := Option.bind_eq_some_iff.mp H
      obtain ⟨t390, A70, H⟩ := H
      have A7 := Aside0.mk A70
      clear A70
      replace H := Option.bind_eq_some_iff.mp H
      obtain ⟨t391, A80, H⟩ := H
      have A8 := Aside0.mk A80
      clear A80
      have H' := Aside0.mk H
      clear H
      have e389_ : t390 = t389 := Option.some.inj (A7.out.symm.trans A5.out); rw [e389_] at A8
      go_wp2_with (first | (refine Gl 5 #[.slice A0 l0.length c0] Try.func71 ?_; (with_reducible refine (spec_piGood.calls k _ _ l0 true _ (Cm (Kd.C_below HR0.out HB.out)) HC0.out A3.out).mono ?_); rintro e w' ⟨rfl, ⟨nd, rfl⟩⟩; refine ⟨_, rfl, ?_⟩) | (go_at_call 78; (with_reducible refine (spec_piSum.calls k _ _ l0 t389 _ (Cm (Kd.C_below HR0.out Ub)) HC0.out A5.out).mono ?_); rintro e w' ⟨rfl, ⟨nd, rfl⟩⟩) | (go_at_call 78; (with_reducible refine (spec_piSum.calls k _ _ l0 t390 _ (Cm (Kd.C_below HR0.out Ub)) HC0.out A7.out).mono ?_); rintro e w' ⟨rfl, ⟨nd, rfl⟩⟩) | (go_at_call 80; (with_reducible refine (spec_piMake.calls k _ _ l0 (wrap64 (Int.tdiv t389 2)) t391 _ (Cm (Kd.C_below HR0.out Ub)) HC0.out A8.out).mono ?_); rintro e w9 ⟨rfl, hb⟩; replace HB := Aside0.mk (below_step Ub hb); clear hb))
      go_meet
      case rel => exact ⟨_, ((t391 == 0)), Rs, H', ⟨by first | omega | exact Nat.le_refl _⟩, ⟨Ub⟩⟩
    have c6b0 : ((Int.tmod t389 2) == 0) = false := beq_eq_false_iff_ne.mpr c6
    have c6b1 := bne_iff_ne.mpr c6
    (first | rw [c6b0] | (simp only [i64_w, i32_w]; rw [c6b0]) | skip)
    have H' := Aside0.mk H
    clear H
    go_wp2_with (first | (refine Gl 5 #[.slice A0 l0.length c0] Try.func71 ?_; (with_reducible refine (spec_piGood.calls k _ _ l0 true _ (Cm (Kd.C_below HR0.out HB.out)) HC0.out A3.out).mono ?_); rintro e w' ⟨rfl, ⟨nd, rfl⟩⟩; refine ⟨_, rfl, ?_⟩) | (go_at_call 78; (with_reducible refine (spec_piSum.calls k _ _ l0 t389 _ (Cm (Kd.C_below HR0.out Ub)) HC0.out A5.out).mono ?_); rintro e w' ⟨rfl, ⟨nd, rfl⟩⟩))
    go_meet
    case rel => exact ⟨_, (true), Rs, H', ⟨by first | omega | exact Nat.le_refl _⟩, ⟨Ub⟩⟩
  have H' := Aside0.mk H
  clear H
  go_wp2_with (first | (refine Gl 5 #[.slice A0 l0.length c0] Try.func71 ?_; (with_reducible refine (spec_piGood.calls k _ _ l0 false _ (Cm (Kd.C_below HR0.out HB.out)) HC0.out A3.out).mono ?_); rintro e w' ⟨rfl, ⟨nd, rfl⟩⟩; refine ⟨_, rfl, ?_⟩))
  go_meet
  case rel => exact ⟨_, (true), Rs, H', ⟨by first | omega | exact Nat.le_refl _⟩, ⟨Ub⟩⟩
 case rest =>
  clear HC2
  try clear c6
  try clear c6b0
  try clear c6b1
  obtain ⟨kq, x20_1, rfl, HA, HJ1, HB⟩ := hcut
  cases kq with
  | zero => exact absurd HA.out (by simp [spec_HalfOf.j0])
  | succ kj1 =>
   have H := HA.out
   clear HA
   simp only [spec_HalfOf.j0] at H
   by_cases c10 : x20_1 = true
   · subst c10
     have H1 : (some (([] : List Int), false)) = some (r1, r2) := by rw [if_pos rfl] at H; exact H
     clear H
     have H := H1
     clear H1
     simp only [Option.some.injEq, Prod.mk.injEq] at H
     obtain ⟨rfl, rfl⟩ := H
     go_wp2
     go_ret2
     exact ⟨_, Re, Nl, Ub⟩
   replace c10 := Bool.eq_false_iff.mpr c10
   subst c10
   have H1 : ((spec_piSum.f kj1 l0).bind fun t392 => ((spec_piFirst.f kj1 l0 (wrap64 (Int.tdiv t392 2))).bind fun t393 => (some (t393, true)))) = some (r1, r2) := by rw [if_neg (show ¬ (false = true) by decide)] at H; exact H
   clear H
   have H := H1
   clear H1
   replace H := Option.bind_eq_some_iff.mp H
   obtain ⟨t392, A110, H⟩ := H
   have A11 := Aside0.mk A110
   clear A110
   replace H := Option.bind_eq_some_iff.mp H
   obtain ⟨t393, A120, H⟩ := H
   have A12 := Aside0.mk A120
   clear A120
   simp only [Option.some.injEq, Prod.mk.injEq] at H
   obtain ⟨rfl, rfl⟩ := H
   go_wp2_with (first | (refine Gl 23 #[.slice A0 l0.length c0] Try.func78 ?_; (with_reducible refine (spec_piSum.calls kj1 _ _ l0 t392 _ (Cm (Kd.C_below HR0.out HB.out)) HC0.out A11.out).mono ?_); rintro e w' ⟨rfl, ⟨nd, rfl⟩⟩; refine ⟨_, rfl, ?_⟩) | (refine Gl 25 #[.slice A0 l0.length c0, .int .i64 (wrap64 (Int.tdiv t392 2))] Try.func81 ?_; (with_reducible refine (spec_piFirst.calls kj1 _ _ l0 (wrap64 (Int.tdiv t392 2)) t393 _ (Cm (Kd.C_below HR0.out Ub)) HC0.out A12.out).mono ?_); rintro e w13 ⟨v394, rfl, ho0, hb⟩; refine ⟨_, rfl, ?_⟩; have HO395 := Aside0.mk (Kd.R_lower ho0 (below_size Ub)); replace HB := Aside0.mk (below_step Ub hb); clear hb ho0))
   go_ret2
   exact ⟨_, Re, Rm HO395.out, Ub⟩

/-! ### spec_ArePieces: function 38 -/
def spec_ArePieces.f (k : Nat) (l0 : List Int) : Option (Bool) := (spec_piGood.f k l0).bind fun t396 => (some t396)
theorem spec_ArePieces.calls (k : Nat) (A0 : Option Addr) (c0 : Nat) (l0 : List Int) (r : Bool) (w : World) (hr0 : Kd.C (Kd.int .i64) w A0 l0.length l0) (hc0 : l0.length ≤ c0) (h : spec_ArePieces.f k l0 = some r) :
 Calls Try.prog 38 #[.slice A0 l0.length c0] w fun e w' => e = .returned (.bool r) ∧ Drawn0 w w' := by
 have HR0 := Aside0.mk hr0
 have HC0 := Aside0.mk hc0
 clear hr0 hc0
 have H := h; unfold spec_ArePieces.f at H
 clear h
 replace H := Option.bind_eq_some_iff.mp H
 obtain ⟨t396, A20, H⟩ := H
 have A2 := Aside0.mk A20
 clear A20
 obtain rfl := Option.some.inj H
 go_enter Try.func38, Try.ntmps38
 go_wp2_with (first | (refine Gl 4 #[.slice A0 l0.length c0] Try.func71 ?_; (with_reducible refine (spec_piGood.calls k _ _ l0 t396 _ (Cm HR0.out) HC0.out A2.out).mono ?_); rintro e w' ⟨rfl, ⟨nd, rfl⟩⟩; refine ⟨_, rfl, ?_⟩))
 go_ret
 exact ⟨Rs, Dr⟩

/-! ### laws_tOf: function 39 -/
def laws_tOf.l0 : Nat → List Int → Int → List Int → Int → Int → Option (Int)
 | 0, _, _, _, _, _ => none
 | k + 1, x0, x5, x8, x9, x10 => if x10 < x9 then (if 0 ≤ x10 then (if x10 < (x8.length : Int) then (if (rd x8 x10) ≥ 0 then (if (rd x8 x10) < (x0.length : Int) then (if 0 ≤ (rd x8 x10) then (laws_tOf.l0 k x0 (wrap64 (x5 + (rd x0 (rd x8 x10)))) x8 x9 (wrap64 (x10 + 1))) else (none)) else (laws_tOf.l0 k x0 x5 x8 x9 (wrap64 (x10 + 1)))) else (laws_tOf.l0 k x0 x5 x8 x9 (wrap64 (x10 + 1)))) else (none)) else (none)) else (some x5)
def laws_tOf.f (k : Nat) (l0 : List Int) (l1 : List Int) : Option (Int) := laws_tOf.l0 k l0 0 l1 (l1.length : Int) 0
theorem laws_tOf.calls (k : Nat) (A0 : Option Addr) (c0 : Nat) (l0 : List Int) (A1 : Option Addr) (c1 : Nat) (l1 : List Int) (r : Int) (w : World) (hr0 : Kd.C (Kd.int .i64) w A0 l0.length l0) (hc0 : l0.length ≤ c0) (hr1 : Kd.C (Kd.int .i64) w A1 l1.length l1) (hc1 : l1.length ≤ c1) (h : laws_tOf.f k l0 l1 = some r) :
 Calls Try.prog 39 #[.slice A0 l0.length c0, .slice A1 l1.length c1] w fun e w' => e = .returned (.int .i64 r) ∧ Drawn0 w w' := by
 have HR0 := Aside0.mk hr0
 have HC0 := Aside0.mk hc0
 clear hr0 hc0
 have HR1 := Aside0.mk hr1
 have HC1 := Aside0.mk hc1
 clear hr1 hc1
 have H := h; unfold laws_tOf.f at H
 clear h
 have H' := Aside0.mk H
 clear H
 go_enter Try.func39, Try.ntmps39
 go_wp2
 go_loopg [5, 10] k (fun kq v5 v10 w' => ∃ (x5_1 : Int) (x10_1 : Int), v5 = .int .i64 x5_1 ∧ v10 = .int .i64 x10_1 ∧ Aside0 (laws_tOf.l0 kq l0 x5_1 l1 (l1.length : Int) x10_1 = some r) ∧ Aside0 (kq ≤ k) ∧ Drawn0 w w')
 case atStart => exact ⟨(0), (0), Rs, Rs, H', ⟨Nat.le_refl _⟩, Dr⟩
 case round =>
  clear H'
  try clear c1
  obtain ⟨x5_1, x10_1, rfl, rfl, HA, HK1, ⟨m1, rfl⟩⟩ := hrel
  cases gk with
  | zero => exact absurd HA.out (by simp [laws_tOf.l0])
  | succ k1 =>
   have H := HA.out
   clear HA
   simp only [laws_tOf.l0] at H
   replace H := Ic H; rcases H with ⟨c3, H⟩ | ⟨c3, H⟩
   · have c3b0 := decide_eq_true c3
     clear c3
     replace H := Ip H; obtain ⟨c4, H⟩ := H
     have c4b0 := decide_eq_true c4
     clear c4
     replace H := Ip H; obtain ⟨c5, H⟩ := H
     have c5b0 := decide_eq_true c5
     clear c5
     replace H := Ic H; rcases H with ⟨c6, H⟩ | ⟨c6, H⟩
     · have c6b0 : decide (0 ≤ (rd l1 x10_1)) = true := decide_eq_true c6
       clear c6
       replace H := Ic H; rcases H with ⟨c7, H⟩ | ⟨c7, H⟩
       · have c7b0 := decide_eq_true c7
         clear c7
         replace H := Ip H; obtain ⟨c8, H⟩ := H
         have c8b0 := decide_eq_true c8
         clear c8
         have H' := Aside0.mk H
         clear H
         obtain ⟨p397, q397, ad397, e397, hx397_0⟩ := Ai HR1.out x10_1
         cases e397
         obtain ⟨p398, q398, ad398, e398, hx398_0⟩ := Ai HR0.out (rd l1 x10_1)
         cases e398
         go_wp2
         go_roundg k1
         case measure => have := HK1.out; omega
         case rel => exact ⟨(wrap64 (x5_1 + (rd l0 (rd l1 x10_1)))), (wrap64 (x10_1 + 1)), Rs, Rs, H', ⟨by have := HK1.out; omega⟩, Dr⟩
       have c7b0 := decide_eq_false c7
       clear c7
       have H' := Aside0.mk H
       clear H
       obtain ⟨p397, q397, ad397, e397, hx397_0⟩ := Ai HR1.out x10_1
       cases e397
       go_wp2
       go_roundg k1
       case measure => have := HK1.out; omega
       case rel => exact ⟨(x5_1), (wrap64 (x10_1 + 1)), Rs, Rs, H', ⟨by have := HK1.out; omega⟩, Dr⟩
     have c6b0 : decide (0 ≤ (rd l1 x10_1)) = false := decide_eq_false c6
     clear c6
     have H' := Aside0.mk H
     clear H
     obtain ⟨p397, q397, ad397, e397, hx397_0⟩ := Ai HR1.out x10_1
     cases e397
     go_wp2
     go_roundg k1
     case measure => have := HK1.out; omega
     case rel => exact ⟨(x5_1), (wrap64 (x10_1 + 1)), Rs, Rs, H', ⟨by have := HK1.out; omega⟩, Dr⟩
   have c3b0 := decide_eq_false c3
   clear c3
   obtain rfl := Option.some.inj H
   go_wp2
   go_ret
   exact ⟨Rs, Dr⟩

/-! ### spec_l1Cur_one: function 91 -/
def spec_l1Cur_one.f (s0_0 : List Int) (s0_1 : Int) (s0_2 : Int) (a1 : Int) : Option (Bool × Int × Int) := (spec_l1Cur_pick.f s0_0 s0_1 s0_2 a1).bind fun bt399 => (some ((bt399.1 == 0), bt399.2.1, bt399.2.2))
theorem spec_l1Cur_one.calls (g : Nat) (s0_0 : List Int) (s0_1 : Int) (s0_2 : Int) (a1 : Int) (r1 : Bool) (r2 : Int) (r3 : Int) (w0 w : World) (hI : IsS60 w0 w g s0_0 s0_1 s0_2) (hB : Below w0.heap.size w0 w) (h : spec_l1Cur_one.f s0_0 s0_1 s0_2 a1 = some (r1, r2, r3)) :
 Calls Try.prog 91 #[.pointer (some ⟨g, 0, none⟩), .int .i64 a1] w fun e w' => e = .returned (.bool r1) ∧ IsS60 w0 w' g s0_0 r2 r3 ∧ Below w0.heap.size w0 w' ∧ KeepBut w w' g none := by
 have HI0 := Aside0.mk hI
 have HK := Aside0.mk (KeepBut.refl w g none)
 have HL := Aside0.mk hB.size
 clear hI
 have HW0 := Aside0.mk hB.size
 have HB := Aside0.mk hB
 clear hB
 have H := h; unfold spec_l1Cur_one.f at H
 clear h
 replace H := Option.bind_eq_some_iff.mp H
 obtain ⟨⟨t399, t400, t401⟩, A30, H⟩ := H
 have A3 := Aside0.mk A30
 clear A30
 simp only [Option.some.injEq, Prod.mk.injEq] at H
 obtain ⟨rfl, rfl, rfl⟩ := H
 go_enter Try.func91, Try.ntmps91
 go_wp2_with (first | (refine Gl 7 #[.pointer (some ⟨g, 0, none⟩), .int .i64 a1] Try.func90 ?_; (with_reducible refine (spec_l1Cur_pick.calls g s0_0 s0_1 s0_2 a1 t399 t400 t401 w0 _ ?side1 ?side2 A3.out).mono ?_); (case side1 => repeat (first | (with_reducible first | exact HI0.out | apply IsS60.alloc | apply IsS60.drewN | apply IsS60.drew | apply IsS60.set_1 | apply IsS60.set_2) | exact HI0.out)); (case side2 => repeat (first | (with_reducible first | exact HB.out | apply below_alloc | apply pw_below_drewN | apply below_drew1 | refine below_set ?_ (IsS60.ge HI0.out)) | exact HB.out)); rintro e w4 ⟨rfl, hi, hb, hk⟩; refine ⟨_, rfl, ?_⟩; replace HK := Aside0.mk (KeepBut.trans (by repeat (first | (with_reducible first | exact HK.out | apply KeepBut.set_ | apply keep_drewN | apply keep_drew | apply keep_alloc) | exact HK.out)) hk (.inl rfl)); replace HB := Aside0.mk (hb); replace HI0 := Aside0.mk (hi); clear hb hk hi))
 go_ret
 exact ⟨Re, by repeat (first | (with_reducible first | exact HI0.out | apply IsS60.alloc | apply IsS60.drewN | apply IsS60.drew | apply IsS60.set_1 | apply IsS60.set_2) | exact HI0.out), by repeat (first | (with_reducible first | exact HB.out | apply below_alloc | apply pw_below_drewN | apply below_drew1 | refine below_set ?_ (IsS60.ge HI0.out)) | exact HB.out), by repeat (first | (with_reducible first | exact HK.out | apply KeepBut.set_ | apply keep_drewN | apply keep_drew | apply keep_alloc) | exact HK.out)⟩

end Go.Proofs.Ytkbllhlmcfjcdaa.PFnSumsMade
