-- MADE FOR THIS CLAIM by wip/xp/xprint.py (with the kit's print; some functions' contracts proved by hand)
import Derived.Test.YtkbllhlmcfjcdaaPFnSumsMadex0
import Derived.Test.YtkbllhlmcfjcdaaPFnSumsMadex4
import Derived.Test.YtkbllhlmcfjcdaaPFnSumsMadex7
set_option maxHeartbeats 8000000
set_option maxRecDepth 100000
namespace Go.Proofs.Ytkbllhlmcfjcdaa.PFnSumsMade
open Go.RowKit Go.Proofs.YtkbllhlmcfjcdaaW.PrintWords Go.Proofs.YtkbllhlmcfjcdaaW.PrintLast Go.Proofs.YtkbllhlmcfjcdaaW.PrintMore Go.Proofs.Ytkbllhlmcfjcdaa.Xmv
attribute [local go_sem] max2_int min2_int max_two min_two max_three min_three max_four min_four   -- for this text's walks alone
set_option linter.unusedVariables false
set_option linter.unusedSimpArgs false

/-! ### impl_firstWay: function 79 -/
mutual
def impl_firstWay.l0 : Nat → List Int → Int → List (List Bool) → Int → Option (List Int × Bool)
 | 0, _, _, _, _ => none
 | k + 1, x0, x1, x6, x7 => if x7 ≥ 0 then (if 0 ≤ (wrap64 (x7 + 1)) then (if (wrap64 (x7 + 1)) < (x6.length : Int) then ((slices_Clone_bool_bool.f (rd_L4 x6 (wrap64 (x7 + 1)))).bind fun t340 => (if 0 ≤ x7 then (if x7 < (x6.length : Int) then (if x7 < (x0.length : Int) then (impl_firstWay.l1 k x0 x1 (x6.set (x7 : Int).toNat t340) x7 (rd x0 x7)) else (none)) else (none)) else (none))) else (none)) else (none)) else (if 0 < (x6.length : Int) then (if 0 ≤ x1 then (if x1 < ((rd_L4 x6 0).length : Int) then (if (rdOf false (rd_L4 x6 0) x1 = true) then (impl_firstWay.l2 k x0 x1 x6 (([] : List Int)) 0) else (some (([] : List Int), false))) else (none)) else (none)) else (none))
def impl_firstWay.l1 : Nat → List Int → Int → List (List Bool) → Int → Int → Option (List Int × Bool)
 | 0, _, _, _, _, _ => none
 | k + 1, x0, x1, x6, x7, x8 => if x8 ≤ x1 then (if 0 ≤ x7 then (if x7 < (x6.length : Int) then (if 0 ≤ x8 then (if x8 < ((rd_L4 x6 x7).length : Int) then (if rdOf false (rd_L4 x6 x7) x8 = true then (impl_firstWay.l1 k x0 x1 (x6.set (x7 : Int).toNat ((rd_L4 x6 x7).set (x8 : Int).toNat true)) x7 (wrap64 (x8 + 1))) else (if 0 ≤ (wrap64 (x7 + 1)) then (if (wrap64 (x7 + 1)) < (x6.length : Int) then (if x7 < (x0.length : Int) then (if 0 ≤ (wrap64 (x8 - (rd x0 x7))) then (if (wrap64 (x8 - (rd x0 x7))) < ((rd_L4 x6 (wrap64 (x7 + 1))).length : Int) then (impl_firstWay.l1 k x0 x1 (x6.set (x7 : Int).toNat ((rd_L4 x6 x7).set (x8 : Int).toNat (rdOf false (rd_L4 x6 (wrap64 (x7 + 1))) (wrap64 (x8 - (rd x0 x7)))))) x7 (wrap64 (x8 + 1))) else (none)) else (none)) else (none)) else (none)) else (none))) else (none)) else (none)) else (none)) else (none)) else (impl_firstWay.l0 k x0 x1 x6 (wrap64 (x7 - 1)))
def impl_firstWay.l2 : Nat → List Int → Int → List (List Bool) → List Int → Int → Option (List Int × Bool)
 | 0, _, _, _, _, _ => none
 | k + 1, x0, x1, x6, x9, x10 => if x1 > 0 then (if 0 ≤ x10 then (if x10 < (x0.length : Int) then (if (rd x0 x10) ≤ x1 then (if 0 ≤ (wrap64 (x10 + 1)) then (if (wrap64 (x10 + 1)) < (x6.length : Int) then (if 0 ≤ (wrap64 (x1 - (rd x0 x10))) then (if (wrap64 (x1 - (rd x0 x10))) < ((rd_L4 x6 (wrap64 (x10 + 1))).length : Int) then (if rdOf false (rd_L4 x6 (wrap64 (x10 + 1))) (wrap64 (x1 - (rd x0 x10))) = true then (if x9.length < 17592186044416 then (impl_firstWay.l2 k x0 (wrap64 (x1 - (rd x0 x10))) x6 (x9 ++ [x10]) (wrap64 (x10 + 1))) else (none)) else (impl_firstWay.l2 k x0 x1 x6 x9 (wrap64 (x10 + 1)))) else (none)) else (none)) else (none)) else (none)) else (impl_firstWay.l2 k x0 x1 x6 x9 (wrap64 (x10 + 1)))) else (none)) else (none)) else (some (x9, true))
end
def impl_firstWay.f (k : Nat) (l0 : List Int) (a1 : Int) : Option (List Int × Bool) := (impl_total.f k l0).bind fun t327 => (if a1 > t327 then (some (([] : List Int), false)) else (if 0 ≤ (wrap64 ((l0.length : Int) + 1)) then (if (wrap64 ((l0.length : Int) + 1) : Int).toNat ≤ 11728124029610 then ((some (List.replicate (wrap64 ((l0.length : Int) + 1) : Int).toNat [] : List (List Bool))).bind fun y328 => (if 0 ≤ (wrap64 (a1 + 1)) then (if (wrap64 (a1 + 1) : Int).toNat ≤ 281474976710656 then (if 0 ≤ (l0.length : Int) then (if (l0.length : Int) < (y328.length : Int) then ((some (y328.set ((l0.length : Int) : Int).toNat (List.replicate (wrap64 (a1 + 1) : Int).toNat false) : List (List Bool))).bind fun y334 => (if 0 < ((rd_L4 y334 (l0.length : Int)).length : Int) then (impl_firstWay.l0 k l0 a1 (y334.set ((l0.length : Int) : Int).toNat ((rd_L4 y334 (l0.length : Int)).set (0 : Int).toNat true)) (wrap64 ((l0.length : Int) - 1))) else (none))) else (none)) else (none)) else (none)) else (none))) else (none)) else (none)))
def impl_firstWay.T13 : Bool × List (List Nat × List Nat) := (true, [([], []), ([], []), ([0, 1], [0, 1]), ([2], [2]), ([], []), ([], []), ([], []), ([5, 6], [5, 6]), ([7], [7]), ([], []), ([8, 9], [8, 9]), ([10], [10]), ([11], [11]), ([12], [12]), ([12], [12]), ([14, 12], [12, 14]), ([13, 15, 12], [12, 13, 15]), ([16, 12], [12, 16]), ([12], [12]), ([12], [12]), ([12], [12]), ([19, 20, 12], [12, 19, 20]), ([21, 12], [12, 21]), ([18, 22, 12], [12, 18, 22]), ([17, 23, 12], [12, 17, 23]), ([24, 12], [12, 24]), ([12, 25], [12, 25]), ([3, 4, 0, 1, 2, 3, 4, 5, 6, 7, 8, 9, 10, 11, 12, 13, 14, 15, 16, 17, 18, 19, 20, 21, 22, 23, 24, 25, 26], [3, 4]), ([27, 26, 12, 0, 1, 2, 3, 4, 5, 6, 7, 8, 9, 10, 11, 12, 13, 14, 15, 16, 17, 18, 19, 20, 21, 22, 23, 24, 25, 26], [26, 27])])
def impl_firstWay.B13 : List Nat := [0, 0, 3, 7, 0, 0, 0, 96, 224, 0, 992, 2016, 4064, 8160, 8160, 24544, 65504, 131040, 8160, 8160, 8160, 1581024, 3678176, 8134624, 16777184, 33554400, 67108832, 134217727, 268435455]
theorem impl_firstWay.tab13 : rtab .any (opsOf Try.f79 13) = impl_firstWay.T13 := by kernel_rfl
theorem impl_firstWay.bits13 : waitsOk impl_firstWay.T13.2 impl_firstWay.B13 = true := by kernel_rfl
def impl_firstWay.T20 : Bool × List (List Nat × List Nat) := (true, [([], []), ([], []), ([0, 1], [0, 1]), ([2], [2]), ([], []), ([3, 4], [3, 4]), ([5], [5]), ([6], [6]), ([6], [6]), ([8, 6], [6, 8]), ([7, 9, 6], [6, 7, 9]), ([10, 6], [6, 10]), ([6], [6]), ([6], [6]), ([6], [6]), ([13, 14, 6], [6, 13, 14]), ([15, 6], [6, 15]), ([12, 16, 6], [6, 12, 16]), ([11, 17, 6], [6, 11, 17]), ([18, 6], [6, 18]), ([6, 19], [6, 19])])
def impl_firstWay.B20 : List Nat := [0, 0, 3, 7, 0, 31, 63, 127, 127, 383, 1023, 2047, 127, 127, 127, 24703, 57471, 127103, 262143, 524287, 1048575]
theorem impl_firstWay.tab20 : rtab .any (opsOf Try.f79 20) = impl_firstWay.T20 := by kernel_rfl
theorem impl_firstWay.bits20 : waitsOk impl_firstWay.T20.2 impl_firstWay.B20 = true := by kernel_rfl
theorem impl_firstWay.calls (k : Nat) (A0 : Option Addr) (c0 : Nat) (l0 : List Int) (a1 : Int) (r1 : List Int) (r2 : Bool) (w : World) (hr0 : Kd.C (Kd.int .i64) w A0 l0.length l0) (hc0 : l0.length ≤ c0) (h : impl_firstWay.f k l0 a1 = some (r1, r2)) :
 Calls Try.prog 79 #[.slice A0 l0.length c0, .int .i64 a1] w fun e w' => ∃ v0_ : Value, e = .returned (.tuple #[v0_, .bool r2]) ∧ Kd.R (Kd.int .i64) 3 w' w.heap.size (fun _ => True) v0_ r1 ∧ Below w.heap.size w w' := by
 have HR0 := Aside0.mk hr0
 have HC0 := Aside0.mk hc0
 clear hr0 hc0
 have HB := Aside0.mk (Below.refl w.heap.size w)
 have H := h; unfold impl_firstWay.f at H
 clear h
 replace H := Option.bind_eq_some_iff.mp H
 obtain ⟨t327, A30, H⟩ := H
 have A3 := Aside0.mk A30
 clear A30
 by_cases c4 : a1 > t327
 · rw [if_pos c4] at H
   have c4b0 : decide (t327 < a1) = true := decide_eq_true c4
   clear c4
   simp only [Option.some.injEq, Prod.mk.injEq] at H
   obtain ⟨rfl, rfl⟩ := H
   go_enter Try.func79, Try.ntmps79
   go_wp2_with (first | (refine Gl 13 #[.slice A0 l0.length c0] Try.func75 ?_; (with_reducible refine (impl_total.calls k _ _ l0 t327 _ (Cm HR0.out) HC0.out A3.out).mono ?_); rintro e w' ⟨rfl, ⟨nd, rfl⟩⟩; refine ⟨_, rfl, ?_⟩))
   go_ret2
   exact ⟨_, Re, Nl, Ub⟩
 rw [if_neg c4] at H
 have c4b0 : decide (t327 < a1) = false := decide_eq_false c4
 clear c4
 obtain ⟨ji5, hji5⟩ : ∃ j_ : Int, (wrap64 ((l0.length : Int) + 1)) = j_ := ⟨_, rfl⟩
 replace H : (if 0 ≤ (ji5) then (if (ji5 : Int).toNat ≤ 11728124029610 then ((some (List.replicate (ji5 : Int).toNat [] : List (List Bool))).bind fun y328 => (if 0 ≤ (wrap64 (a1 + 1)) then (if (wrap64 (a1 + 1) : Int).toNat ≤ 281474976710656 then (if 0 ≤ (l0.length : Int) then (if (l0.length : Int) < (y328.length : Int) then ((some (y328.set ((l0.length : Int) : Int).toNat (List.replicate (wrap64 (a1 + 1) : Int).toNat false) : List (List Bool))).bind fun y334 => (if 0 < ((rd_L4 y334 (l0.length : Int)).length : Int) then (impl_firstWay.l0 k l0 a1 (y334.set ((l0.length : Int) : Int).toNat ((rd_L4 y334 (l0.length : Int)).set (0 : Int).toNat true)) (wrap64 ((l0.length : Int) - 1))) else (none))) else (none)) else (none)) else (none)) else (none))) else (none)) else (none)) = some (r1, r2) := by first | (rw [hji5] at H; exact H) | (simp only [hji5] at H ⊢; exact H)
 (try rw [hji5] at A3)
 have hji5w : (IntKind.i64.wrap ((l0.length : Int) + 1)) = ji5 := (i64_w _).trans hji5
 by_cases c6 : 0 ≤ (ji5)
 · rw [if_pos c6] at H
   have c6b0 := eq_true c6
   have c6b1 : decide (0 ≤ (ji5)) = true := decide_eq_true c6
   clear c6
   by_cases c7 : (ji5 : Int).toNat ≤ 11728124029610
   · rw [if_pos c7] at H
     have c7b0 := eq_true c7
     have c7b1 : decide ((ji5 : Int).toNat ≤ 11728124029610) = true := decide_eq_true c7
     clear c7
     obtain ⟨y328, hy328⟩ : ∃ y_ : List (List Bool), y_ = (List.replicate (ji5 : Int).toNat []) := ⟨_, rfl⟩
     replace H : (if 0 ≤ (wrap64 (a1 + 1)) then (if (wrap64 (a1 + 1) : Int).toNat ≤ 281474976710656 then (if 0 ≤ (l0.length : Int) then (if (l0.length : Int) < (y328.length : Int) then ((some (y328.set ((l0.length : Int) : Int).toNat (List.replicate (wrap64 (a1 + 1) : Int).toNat false) : List (List Bool))).bind fun y334 => (if 0 < ((rd_L4 y334 (l0.length : Int)).length : Int) then (impl_firstWay.l0 k l0 a1 (y334.set ((l0.length : Int) : Int).toNat ((rd_L4 y334 (l0.length : Int)).set (0 : Int).toNat true)) (wrap64 ((l0.length : Int) - 1))) else (none))) else (none)) else (none)) else (none)) else (none)) = some (r1, r2) := by first | (rw [hy328]; with_reducible exact H) | (have H2_ := (Option.bind_some _ _).symm.trans H; rw [hy328]; with_reducible exact H2_) | (have H2_ := (Option.bind_some _ _).symm.trans H; with_reducible exact H2_) | with_reducible exact H | (rw [hy328]; exact H) | exact H
     have Ny328 := Aside0.mk hy328
     clear hy328
     obtain ⟨ji8, hji8⟩ : ∃ j_ : Int, (wrap64 (a1 + 1)) = j_ := ⟨_, rfl⟩
     replace H : (if 0 ≤ (ji8) then (if (ji8 : Int).toNat ≤ 281474976710656 then (if 0 ≤ (l0.length : Int) then (if (l0.length : Int) < (y328.length : Int) then ((some (y328.set ((l0.length : Int) : Int).toNat (List.replicate (ji8 : Int).toNat false) : List (List Bool))).bind fun y334 => (if 0 < ((rd_L4 y334 (l0.length : Int)).length : Int) then (impl_firstWay.l0 k l0 a1 (y334.set ((l0.length : Int) : Int).toNat ((rd_L4 y334 (l0.length : Int)).set (0 : Int).toNat true)) (wrap64 ((l0.length : Int) - 1))) else (none))) else (none)) else (none)) else (none)) else (none)) = some (r1, r2) := by first | (rw [hji8] at H; exact H) | (simp only [hji8] at H ⊢; exact H)
     (try rw [hji8] at A3)
     have hji8w : (IntKind.i64.wrap (a1 + 1)) = ji8 := (i64_w _).trans hji8
     by_cases c9 : 0 ≤ (ji8)
     · rw [if_pos c9] at H
       have c9b0 := eq_true c9
       have c9b1 : decide (0 ≤ (ji8)) = true := decide_eq_true c9
       clear c9
       by_cases c10 : (ji8 : Int).toNat ≤ 281474976710656
       · rw [if_pos c10] at H
         have c10b0 := eq_true c10
         have c10b1 : decide ((ji8 : Int).toNat ≤ 281474976710656) = true := decide_eq_true c10
         clear c10
         obtain ⟨y331, hy331⟩ : ∃ y_ : List Bool, y_ = (List.replicate (ji8 : Int).toNat false) := ⟨_, rfl⟩
         replace H : (if 0 ≤ (l0.length : Int) then (if (l0.length : Int) < (y328.length : Int) then ((some (y328.set ((l0.length : Int) : Int).toNat y331 : List (List Bool))).bind fun y334 => (if 0 < ((rd_L4 y334 (l0.length : Int)).length : Int) then (impl_firstWay.l0 k l0 a1 (y334.set ((l0.length : Int) : Int).toNat ((rd_L4 y334 (l0.length : Int)).set (0 : Int).toNat true)) (wrap64 ((l0.length : Int) - 1))) else (none))) else (none)) else (none)) = some (r1, r2) := by first | (rw [hy331]; with_reducible exact H) | (have H2_ := (Option.bind_some _ _).symm.trans H; rw [hy331]; with_reducible exact H2_) | (have H2_ := (Option.bind_some _ _).symm.trans H; with_reducible exact H2_) | with_reducible exact H | (rw [hy331]; exact H) | exact H
         have Ny331 := Aside0.mk hy331
         clear hy331
         by_cases c11 : 0 ≤ (l0.length : Int)
         · rw [if_pos c11] at H
           have c11b0 : decide (0 ≤ (l0.length : Int)) = true := decide_eq_true c11
           have c11b1 : decide (0 ≤ l0.length) = true := decide_eq_true (by omega)
           clear c11
           by_cases c12 : (l0.length : Int) < (y328.length : Int)
           · rw [if_pos c12] at H
             have c12b0 : decide ((l0.length : Int) < (y328.length : Int)) = true := decide_eq_true c12
             have c12b1 : decide (l0.length < y328.length) = true := decide_eq_true (Int.ofNat_lt.mp c12)
             clear c12
             obtain ⟨y334, hy334⟩ : ∃ y_ : List (List Bool), y_ = (y328.set ((l0.length : Int) : Int).toNat y331) := ⟨_, rfl⟩
             replace H : (if 0 < ((rd_L4 y334 (l0.length : Int)).length : Int) then (impl_firstWay.l0 k l0 a1 (y334.set ((l0.length : Int) : Int).toNat ((rd_L4 y334 (l0.length : Int)).set (0 : Int).toNat true)) (wrap64 ((l0.length : Int) - 1))) else (none)) = some (r1, r2) := by first | (rw [hy334]; with_reducible exact H) | (have H2_ := (Option.bind_some _ _).symm.trans H; rw [hy334]; with_reducible exact H2_) | (have H2_ := (Option.bind_some _ _).symm.trans H; with_reducible exact H2_) | with_reducible exact H | (rw [hy334]; exact H) | exact H
             have Ny334 := Aside0.mk hy334
             clear hy334
             by_cases c14 : 0 < ((rd_L4 y334 (l0.length : Int)).length : Int)
             · rw [if_pos c14] at H
               have c14b0 : decide (0 < ((rd_L4 y334 (l0.length : Int)).length : Int)) = true := decide_eq_true c14
               have c14b1 : decide (0 < (rd_L4 y334 (l0.length : Int)).length) = true := decide_eq_true (by omega)
               clear c14
               obtain ⟨y336, hy336⟩ : ∃ y_ : List Bool, y_ = ((rd_L4 y334 (l0.length : Int)).set (0 : Int).toNat true) := ⟨_, rfl⟩
               replace H : (impl_firstWay.l0 k l0 a1 (y334.set ((l0.length : Int) : Int).toNat y336) (wrap64 ((l0.length : Int) - 1))) = some (r1, r2) := by first | (rw [hy336]; with_reducible exact H) | (have H2_ := (Option.bind_some _ _).symm.trans H; rw [hy336]; with_reducible exact H2_) | (have H2_ := (Option.bind_some _ _).symm.trans H; with_reducible exact H2_) | with_reducible exact H | (rw [hy336]; exact H) | exact H
               have Ny336 := Aside0.mk hy336
               clear hy336
               obtain ⟨y338, hy338⟩ : ∃ y_ : List (List Bool), y_ = (y334.set ((l0.length : Int) : Int).toNat y336) := ⟨_, rfl⟩
               replace H : (impl_firstWay.l0 k l0 a1 y338 (wrap64 ((l0.length : Int) - 1))) = some (r1, r2) := by first | (rw [hy338]; with_reducible exact H) | (have H2_ := (Option.bind_some _ _).symm.trans H; rw [hy338]; with_reducible exact H2_) | (have H2_ := (Option.bind_some _ _).symm.trans H; with_reducible exact H2_) | with_reducible exact H | (rw [hy338]; exact H) | exact H
               have Ny338 := Aside0.mk hy338
               clear hy338
               have H' := Aside0.mk H
               clear H
               go_enter Try.func79, Try.ntmps79
               go_wp2_with (first | (refine Gl 13 #[.slice A0 l0.length c0] Try.func75 ?_; (with_reducible refine (impl_total.calls k _ _ l0 t327 _ (Cm HR0.out) HC0.out A3.out).mono ?_); rintro e w' ⟨rfl, ⟨nd, rfl⟩⟩; refine ⟨_, rfl, ?_⟩) | ((with_reducible refine gate_dst (N := 18) rfl ?_); refine Kd.S_make (Kd.slice 4 Kd.bool) _ 47 rfl (N := 18) rfl 66 _ _ rfl ji5 rfl rfl Try.underlying66 (.slice none 0 0) 24 info47 rfl (by decide) (by omega) [] (ok := fun _ => True) (okp := fun _ => True) ⟨_, rfl, Kd.R_nil _ _ _ _ _⟩ (fun _ hk => hk) trivial (Oa) (Nat.le_trans (Nat.mul_le_mul_right _ (Oa : ji5.toNat ≤ 11728124029610)) (by omega)) (Below.refl _ _) (Nat.le_refl _) ?_; intro v329 w16 ho17 hb hg_ hnew_; clear hg_ hnew_; (first | rw [← Ny328.out] at ho17 | (simp only [Int.reduceToNat] at ho17; rw [← Ny328.out] at ho17)); have HO330 := Aside0.mk (Kd.S_lower ho17 (below_size Ub)); replace HB := Aside0.mk (below_step Ub hb); clear hb ho17) | ((with_reducible refine gate_dst (N := 24) rfl ?_); refine Kd.R_make Kd.bool _ 4 rfl (N := 24) rfl 47 _ _ rfl ji8 rfl rfl Try.underlying47 (.bool false) 1 info4 rfl (by decide) (by omega) false (ok := fun _ => True) (okp := fun _ => True) rfl (fun _ hk => hk) trivial (Oa) (Nat.le_trans (Nat.mul_le_mul_right _ (Oa : ji8.toNat ≤ 281474976710656)) (by omega)) (Below.refl _ _) (Nat.le_refl _) ?_; intro v332 w18 ho19 hb hg_ hnew_; clear hg_ hnew_; (first | rw [← Ny331.out] at ho19 | (simp only [Int.reduceToNat] at ho19; rw [← Ny331.out] at ho19)); replace HO330 := Aside0.mk (Kd.S_elder' (Sm HO330.out) (Kd.R_base ho19) hb); have HO333 := Aside0.mk (Kd.R_lower ho19 (below_size Ub)); obtain ⟨Av332, cv332, ev332⟩ := Kd.R_slice HO333.out; subst ev332; replace HB := Aside0.mk (below_step Ub hb); clear hb ho19; have p13 : 0 ≤ ((l0.length : Int) : Int) := Oa; have q13 : ((l0.length : Int) : Int) < ((y328.length : Int) : Int) := Oa; obtain ⟨go13, co13, eo13, gb13, gl13, cl13, HG13⟩ := Kd.S_form HO330.out (by omega); (first | cases eo13 | (injection eo13 with ea_ en_ ec_; (first | subst ea_ | (injection ea_ with ea_; subst ea_)); subst ec_; clear en_)); have GB13 := Aside0.mk gb13; have GG13 := Aside0.mk HG13; clear gb13 gl13 HG13; obtain ⟨_, ce13, hcl13, hM13, hcc13, hfr13, _, _⟩ := Kd.S_elem HO330.out [] ((l0.length : Int) : Int) p13 q13; obtain ⟨ve13_0, rfl, ge13_0⟩ := hM13; have hx13_0 := hcc13 0 _ rfl; have hf13_0 := hfr13 0; (try simp only [show ((Kd.slice 4 Kd.bool)).sz = 1 from rfl, Nat.mul_one, Nat.add_zero] at hx13_0); (try simp only [show ((Kd.slice 4 Kd.bool)).sz = 1 from rfl, Nat.mul_one, Nat.add_zero] at hf13_0); (try simp only [Int.toNat_natCast] at hx13_0 hf13_0); replace p13 := eq_true p13; replace q13 := eq_true q13; have n_ := Aside0.mk (Kd.S_mono (ok' := (fun k_ => some k_ ≠ ((.slice Av332 y331.length cv332) : Value).ownBlock)) HO330.out (fun k_ hk => hk.2)); clear HO330; have HO330 := n_; clear n_; have HX20 := Aside0.mk (show Kd.S (Kd.slice 4 Kd.bool) 47 w18 w.heap.size (fun k_ => ((fun _ => True)) k_ ∧ ¬ ((fun k_ => some k_ = ((.slice Av332 y331.length cv332) : Value).ownBlock)) k_) (.slice (some ⟨go13, 0, none⟩) y328.length co13) y328 from (by (with_reducible repeat (first | apply Kd.S_alloc | apply Kd.S_drewN | apply Kd.S_drew)); exact Kd.S_mono HO330.out (fun k_ hk => ⟨trivial, fun e_ => hk e_⟩))); obtain ⟨oki20, ce20, hcl20, hM20, hcc20, hfr20, hoki20, hH20⟩ := Kd.S_elem HX20.out [] ((l0.length : Int) : Int) (Oa) (by have h_ : ((l0.length : Int) : Int) < ((y328.length : Int) : Int) := Oa; first | exact h_ | (have e_ := (Kd.S_reads' HO330.out).1; omega) | simpa using h_); obtain ⟨ve20_0, rfl, ge20_0⟩ := hM20; have HP20 := Kd.S_seg hH20 (Oa) (by have h_ : ((l0.length : Int) : Int) < ((y328.length : Int) : Int) := Oa; first | exact h_ | (have e_ := (Kd.S_reads' HO330.out).1; omega) | simpa using h_) (seg := [(.slice Av332 y331.length cv332)]) (j := 0) (show 1 ≤ 1 from by decide) (x' := y331) (Kd.M_row (Kd.R_mono (Kd.R_tight rfl (Kd.R_mono (ok' := fun k_ => ((fun _ => True)) k_ ∧ k_ ≠ go13) (Kd.R_apart' (HO333.out) (Kd.S_typed HO330.out) (by decide)) (fun k_ hk => ⟨trivial, fun e_ => (hk.2) (by rw [e_]; rfl)⟩))) (fun _ h_ => Or.inr (h_)))) (fun _ hk => hk) (fun k_ hk_ => ((Kd.R_mono (ok' := fun k_ => ((fun _ => True)) k_ ∧ k_ ≠ go13) (Kd.R_apart' (HO333.out) (Kd.S_typed HO330.out) (by decide)) (fun k_ hk => ⟨trivial, fun e_ => (hk.2) (by rw [e_]; rfl)⟩))).1 k_ hk_.symm); have hx20_0 := hcc20 0 _ rfl; (try simp only [show ((Kd.slice 4 Kd.bool)).sz = 1 from rfl, Nat.mul_one, Nat.add_zero] at hx20_0); have hf20_0 := hfr20 0; (try simp only [show ((Kd.slice 4 Kd.bool)).sz = 1 from rfl, Nat.mul_one, Nat.add_zero] at hf20_0); (try simp only [Int.toNat_natCast] at hx20_0 hf20_0); (try clear hcl20); (try clear hcc20); (try clear hfr20); (try clear hM20); (try clear hoki20); (try clear hH20); (try simp only [show ((Kd.slice 4 Kd.bool)).sz = 1 from rfl, Nat.mul_one, Nat.add_zero] at HP20)) | ((with_reducible refine gate_store (t := 47) (p := 25) rfl ?_); refine store_event (t := 47) (p := 25) (v := ?vo_w21) (w1 := (w18.setCell ⟨go13, ((l0.length : Int) : Int).toNat, none⟩ ((.slice Av332 y331.length cv332)))) ?hg ?ho ?hn ?hr ?_; (case ho => rfl); (case hg => rfl); (case hn => rfl); (case hr => first | (go_simp; done) | (go_simp; rfl)); intro w21 hw; have hg : w18.grownBy w21 (some go13) := (by rw [hw]; exact HP20.2); have hp_ : Kd.S (Kd.slice 4 Kd.bool) 47 w21 w.heap.size (fun _ => True) (.slice (some ⟨go13, 0, none⟩) y328.length co13) y334 := (by rw [hw, Ny334.out]; exact HP20.1); clear HP20; replace HO330 := Aside0.mk (hp_); replace HB := Aside0.mk ((by rw [hw]; exact below_set (HB.out) GB13.out : Below w.heap.size w w21)); clear HO333; clear hg hw hp_; have p335 : 0 ≤ ((l0.length : Int) : Int) := Oa; have q335 : (l0.length : Int) < (y334.length : Int) := (by have h_ : ((l0.length : Int) : Int) < ((y328.length : Int) : Int) := Oa; first | (have e_ := (Kd.S_reads' HO330.out).1; omega) | simpa only [Ny334.out, List.length_set] using h_); have ql335 : (((l0.length : Int) : Int) < ((y328.length : Int) : Int)) = True := eq_true (Oa); obtain ⟨ad335, A335_0, c335_0, e335, hx335_0, hl335_0, hi335_0⟩ := at_L4 (Kd.S_reads' HO330.out).2.2 (l0.length : Int) p335 q335; obtain rfl : (⟨go13, 0, none⟩ : Addr) = ad335 := (by injection e335); obtain ⟨ce335, hce335, hMe335, hcc335⟩ := Kd.S_get HO330.out [] (l0.length : Int) p335 (by first | exact q335 | exact Oa | (have e_ := (Kd.S_reads' HO330.out).1; omega)); obtain ⟨ve335_0, rfl, ge335_0⟩ := hMe335; have hv335_0 := hcc335 0 _ rfl; rw [Nat.add_zero, show ((Kd.slice 4 Kd.bool)).sz = 1 from rfl, Nat.mul_one] at hv335_0; replace hv335_0 := Option.some.inj (hv335_0.symm.trans hx335_0); rw [hv335_0] at ge335_0; have HL335_0 := Aside0.mk (show Kd.R Kd.bool 4 _ _ _ _ (rd_L4 y334 (l0.length : Int)) from ge335_0); clear hv335_0 ge335_0; have HX335_0 := Aside0.mk hx335_0; clear hcc335 hce335; (first | simp only [add_plain] at hx335_0 | simp only [add_at] at hx335_0 | simp only [Addr.add, Nat.zero_add] at hx335_0 | skip); have HR335_0 := Aside0.mk hi335_0; have HC335_0 := Aside0.mk hl335_0; clear hi335_0 hl335_0; (try simp only [Go.IntWalk.toNatUp] at hx335_0); replace p335 := eq_true p335; replace q335 := eq_true q335; have p15 : 0 ≤ (0 : Int) := (by omega); have q15 : (0 : Int) < (((rd_L4 y334 (l0.length : Int)).length : Int) : Int) := Oa; have qi15 : (0 < (rd_L4 y334 (l0.length : Int)).length) = True := eq_true (by omega); obtain ⟨go15, co15, eo15, gb15, gl15, cl15, HG15⟩ := Kd.R_form HL335_0.out (by omega); (first | cases eo15 | (injection eo15 with ea_ en_ ec_; (first | subst ea_ | (injection ea_ with ea_; subst ea_)); subst ec_; clear en_)); have GB15 := Aside0.mk gb15; have GG15 := Aside0.mk HG15; clear gb15 gl15 HG15; obtain ⟨hx15_0, hf15_0⟩ := Kd.R_celln false HL335_0.out (0 : Int) p15 q15; (try rw [show ((0 : Int)).toNat = 0 from rfl] at hx15_0); (try simp only [Nat.reduceMul, Nat.zero_mul, Nat.zero_add, Nat.reduceAdd] at hx15_0); (try rw [show ((0 : Int)).toNat = 0 from rfl] at hf15_0); (try simp only [Nat.reduceMul, Nat.zero_mul, Nat.zero_add, Nat.reduceAdd] at hf15_0); replace p15 := eq_true p15; replace q15 := eq_true q15; have hq22 : ((l0.length : Int) : Int) < (y334.length : Int) := (by have h_ : ((l0.length : Int) : Int) < ((y328.length : Int) : Int) := Oa; first | exact h_ | (have e_ := (Kd.S_reads' HO330.out).1; omega) | simpa only [Ny334.out, List.length_set] using h_); obtain ⟨oki22, ce22, hcl22, hM22, hcc22, hok22, hbk22⟩ := Kd.S_borrow HO330.out [] ((l0.length : Int) : Int) (Oa) (by have h_ := hq22; have e_ := (Kd.S_reads' HO330.out).1; omega); obtain ⟨ve22_0, rfl, ge22_0⟩ := hM22; have hv22 := hcc22 0 _ rfl; rw [Nat.add_zero, show ((Kd.slice 4 Kd.bool)).sz = 1 from rfl, Nat.mul_one] at hv22; replace hv22 := Option.some.inj (hv22.symm.trans HX335_0.out); subst hv22; (try clear hcc22); (try clear hcl22); replace ge22_0 := (show Kd.R Kd.bool 4 _ _ _ _ (rd_L4 y334 (l0.length : Int)) from ge22_0); have HP22 := Kd.R_putg ge22_0 (0 : Int) true) | ((with_reducible refine gate_store (t := 4) (p := 31) rfl ?_); refine store_event (t := 4) (p := 31) (v := ?vo_w23) (w1 := (w21.setCell ⟨go15, 0, none⟩ (.bool true))) ?hg ?ho ?hn ?hr ?_; (case ho => rfl); (case hg => rfl); (case hn => rfl); (case hr => first | (go_simp; done) | (go_simp; rfl)); intro w23 hw; have hg : w21.grownBy w23 (some go15) := (by rw [hw]; exact HP22.2); have hz_ : Kd.R Kd.bool 4 w23 w.heap.size oki22 (.slice (some ⟨go15, 0, none⟩) (rd_L4 y334 (l0.length : Int)).length c335_0) y336 := (by rw [hw, Ny336.out]; exact HP22.1); have hp_ : Kd.S (Kd.slice 4 Kd.bool) 47 w23 w.heap.size (fun _ => True) (.slice (some ⟨go13, 0, none⟩) y328.length co13) y338 := (by rw [Ny338.out]; exact hbk22 hg (fun k_ e_ => by injection e_ with e_; subst e_; exact ge22_0.1 _ rfl) (Kd.M_row hz_)); have hm_ := Kd.R_mono hz_ hok22; clear HP22 hbk22; replace HO330 := Aside0.mk (hp_); replace HB := Aside0.mk ((by rw [hw]; exact below_set (HB.out) GB15.out : Below w.heap.size w w23)); have HL370 := Aside0.mk (hm_); have HC337 := Aside0.mk ((Kd.R_reads' hm_).2.1); clear HL335_0; clear hg hw hp_ hz_ hm_ hok22))
               go_loopg [7] k (fun kq v7 w' => ∃ (x6_1 : List (List Bool)) (x7_1 : Int), v7 = .int .i64 x7_1 ∧ Aside0 (impl_firstWay.l0 kq l0 a1 x6_1 x7_1 = some (r1, r2)) ∧ Aside0 (kq ≤ k) ∧ Aside0 (Kd.S (Kd.slice 4 Kd.bool) 47 w' w.heap.size (fun _ => True) (.slice (some ⟨go13, 0, none⟩) y328.length co13) x6_1) ∧ Aside0 (Below w.heap.size w w'))
               case atStart => exact ⟨(y338), (wrap64 ((l0.length : Int) - 1)), Rs, H', ⟨Nat.le_refl _⟩, ⟨Sm HO330.out⟩, ⟨Ub⟩⟩
               case round =>
                clear H'
                try clear c4
                try clear c4b0
                try clear c6
                try clear c6b0
                try clear c6b1
                try clear c7
                try clear c7b0
                try clear c7b1
                try clear c9
                try clear c9b0
                try clear c9b1
                try clear c10
                try clear c10b0
                try clear c10b1
                try clear c11
                try clear c11b0
                try clear c11b1
                try clear c12
                try clear c12b0
                try clear c12b1
                try clear p13
                try clear q13
                try clear c14
                try clear c14b0
                try clear c14b1
                try clear p15
                try clear q15
                try clear qi15
                try clear hx13_0
                try clear hx15_0
                try clear hx20_0
                try clear hx335_0
                try clear p13
                try clear p15
                try clear p335
                try clear q13
                try clear q15
                try clear q335
                obtain ⟨x6_1, x7_1, rfl, HA, HK1, HO_6, HB⟩ := hrel
                have hl6_1 := (Kd.S_reads' HO_6.out).1
                rw [hl6_1] at HO_6
                (try simp only [hl6_1])
                cases gk with
                | zero => exact absurd HA.out (by simp [impl_firstWay.l0])
                | succ k1 =>
                 have H := HA.out
                 clear HA
                 simp only [impl_firstWay.l0] at H
                 by_cases c24 : x7_1 ≥ 0
                 · rw [if_pos c24] at H
                   have c24b0 : decide (0 ≤ x7_1) = true := decide_eq_true c24
                   clear c24
                   obtain ⟨ji25, hji25⟩ : ∃ j_ : Int, (wrap64 (x7_1 + 1)) = j_ := ⟨_, rfl⟩
                   replace H : (if 0 ≤ (ji25) then (if (ji25) < (x6_1.length : Int) then ((slices_Clone_bool_bool.f (rd_L4 x6_1 (ji25))).bind fun t340 => (if 0 ≤ x7_1 then (if x7_1 < (x6_1.length : Int) then (if x7_1 < (l0.length : Int) then (impl_firstWay.l1 k1 l0 a1 (x6_1.set (x7_1 : Int).toNat t340) x7_1 (rd l0 x7_1)) else (none)) else (none)) else (none))) else (none)) else (none)) = some (r1, r2) := by first | (rw [hji25] at H; exact H) | (simp only [hji25] at H ⊢; exact H)
                   have hji25w : (IntKind.i64.wrap (x7_1 + 1)) = ji25 := (i64_w _).trans hji25
                   by_cases c26 : 0 ≤ (ji25)
                   · rw [if_pos c26] at H
                     have c26b0 : decide (0 ≤ (ji25)) = true := decide_eq_true c26
                     clear c26
                     by_cases c27 : (ji25) < (x6_1.length : Int)
                     · rw [if_pos c27] at H
                       have c27b0 : decide ((ji25) < (x6_1.length : Int)) = true := decide_eq_true c27
                       clear c27
                       replace H := Option.bind_eq_some_iff.mp H
                       obtain ⟨t340, A280, H⟩ := H
                       have A28 := Aside0.mk A280
                       clear A280
                       by_cases c29 : 0 ≤ x7_1
                       · rw [if_pos c29] at H
                         have c29b0 : decide (0 ≤ x7_1) = true := decide_eq_true c29
                         clear c29
                         by_cases c30 : x7_1 < (x6_1.length : Int)
                         · rw [if_pos c30] at H
                           have c30b0 : decide (x7_1 < (x6_1.length : Int)) = true := decide_eq_true c30
                           clear c30
                           obtain ⟨y343, hy343⟩ : ∃ y_ : List (List Bool), y_ = (x6_1.set (x7_1 : Int).toNat t340) := ⟨_, rfl⟩
                           replace H : (if x7_1 < (l0.length : Int) then (impl_firstWay.l1 k1 l0 a1 y343 x7_1 (rd l0 x7_1)) else (none)) = some (r1, r2) := by first | (rw [hy343]; with_reducible exact H) | (have H2_ := (Option.bind_some _ _).symm.trans H; rw [hy343]; with_reducible exact H2_) | (have H2_ := (Option.bind_some _ _).symm.trans H; with_reducible exact H2_) | with_reducible exact H | (rw [hy343]; exact H) | exact H
                           have Ny343 := Aside0.mk hy343
                           clear hy343
                           by_cases c32 : x7_1 < (l0.length : Int)
                           · rw [if_pos c32] at H
                             have c32b0 : decide (x7_1 < (l0.length : Int)) = true := decide_eq_true c32
                             clear c32
                             have H' := Aside0.mk H
                             clear H
                             have p339 : 0 ≤ ((ji25) : Int) := Oa
                             have q339 : (ji25) < (x6_1.length : Int) := Oa
                             obtain ⟨ad339, A339_0, c339_0, e339, hx339_0, hl339_0, hi339_0⟩ := at_L4 (Kd.S_reads' HO_6.out).2.2 (ji25) p339 q339
                             obtain rfl : (⟨go13, 0, none⟩ : Addr) = ad339 := (by injection e339)
                             obtain ⟨ce339, hce339, hMe339, hcc339⟩ := Kd.S_get HO_6.out [] (ji25) p339 (by first | exact q339 | exact Oa | (have e_ := (Kd.S_reads' HO_6.out).1; omega))
                             obtain ⟨ve339_0, rfl, ge339_0⟩ := hMe339
                             have hv339_0 := hcc339 0 _ rfl
                             rw [Nat.add_zero, show ((Kd.slice 4 Kd.bool)).sz = 1 from rfl, Nat.mul_one] at hv339_0
                             replace hv339_0 := Option.some.inj (hv339_0.symm.trans hx339_0)
                             rw [hv339_0] at ge339_0
                             have HL339_0 := Aside0.mk (show Kd.R Kd.bool 4 _ _ _ _ (rd_L4 x6_1 (ji25)) from ge339_0)
                             clear hv339_0 ge339_0
                             have HX339_0 := Aside0.mk hx339_0
                             clear hcc339 hce339
                             (first | simp only [add_plain] at hx339_0 | simp only [add_at] at hx339_0 | simp only [Addr.add, Nat.zero_add] at hx339_0 | skip)
                             have HR339_0 := Aside0.mk hi339_0
                             have HC339_0 := Aside0.mk hl339_0
                             clear hi339_0 hl339_0
                             replace p339 := eq_true p339
                             replace q339 := eq_true q339
                             go_wp2_with (first | (refine Gl 46 #[.slice A339_0 (rd_L4 x6_1 (ji25)).length c339_0] Try.func106 ?_ (hargs := (by (try simp only [List.map_toArray, List.map_cons, List.map_nil]); first | done | (simp only [hji25]; rfl) | rfl | (simp only [List.length_drop, List.length_take]; rfl))); (with_reducible refine (slices_Clone_bool_bool.calls _ _ (rd_L4 x6_1 (ji25)) t340 _ (Cm (by repeat (first | (with_reducible exact HR339_0.out) | (with_reducible refine Kd.C_alloc ?_ _) | (with_reducible refine Kd.C_drewN ?_ _) | (with_reducible refine Kd.C_drew ?_) | exact HR339_0.out))) HC339_0.out A28.out).mono ?_); rintro e w33 ⟨v341, rfl, ho0, hb⟩; refine ⟨_, rfl, ?_⟩; replace HO_6 := Aside0.mk (Kd.S_elder' (Sm HO_6.out) (Kd.R_base ho0) hb); have HO342 := Aside0.mk (Kd.R_lower (Kd.R_new' ho0 (Kd.R_lt (Rm HL339_0.out))) (below_size Ub)); obtain ⟨Av341, cv341, ev341⟩ := Kd.R_slice HO342.out; subst ev341; replace HL339_0 := Aside0.mk (Kd.R_elder' (Rm HL339_0.out) (Kd.R_base ho0) hb); replace HR339_0 := Aside0.mk (Kd.C_below (by repeat (first | (with_reducible exact HR339_0.out) | (with_reducible refine Kd.C_alloc ?_ _) | (with_reducible refine Kd.C_drewN ?_ _) | (with_reducible refine Kd.C_drew ?_) | exact HR339_0.out)) hb); replace HX339_0 := Aside0.mk (pw_cell_below hb HX339_0.out); replace HB := Aside0.mk (below_step Ub hb); clear hb ho0; have p31 : 0 ≤ (x7_1 : Int) := Oa; have q31 : (x7_1 : Int) < ((x6_1.length : Int) : Int) := Oa; obtain ⟨_, ce31, hcl31, hM31, hcc31, hfr31, _, _⟩ := Kd.S_elem HO_6.out [] (x7_1 : Int) p31 q31; obtain ⟨ve31_0, rfl, ge31_0⟩ := hM31; have hx31_0 := hcc31 0 _ rfl; have hf31_0 := hfr31 0; (try simp only [show ((Kd.slice 4 Kd.bool)).sz = 1 from rfl, Nat.mul_one, Nat.add_zero] at hx31_0); (try simp only [show ((Kd.slice 4 Kd.bool)).sz = 1 from rfl, Nat.mul_one, Nat.add_zero] at hf31_0); (try simp only [Int.toNat_natCast] at hx31_0 hf31_0); (try clear hcl31); (try clear hcc31); (try clear hfr31); (try clear hM31); replace p31 := eq_true p31; replace q31 := eq_true q31; have n_ := Aside0.mk (Kd.S_mono (ok' := (fun k_ => some k_ ≠ ((.slice Av341 t340.length cv341) : Value).ownBlock)) HO_6.out (fun k_ hk => hk.2)); clear HO_6; have HO_6 := n_; clear n_; have HX34 := Aside0.mk (show Kd.S (Kd.slice 4 Kd.bool) 47 w33 w.heap.size (fun k_ => ((fun _ => True)) k_ ∧ ¬ ((fun k_ => some k_ = ((.slice Av341 t340.length cv341) : Value).ownBlock)) k_) (.slice (some ⟨go13, 0, none⟩) x6_1.length co13) x6_1 from (by (with_reducible repeat (first | apply Kd.S_alloc | apply Kd.S_drewN | apply Kd.S_drew)); exact Kd.S_mono HO_6.out (fun k_ hk => ⟨trivial, fun e_ => hk e_⟩))); obtain ⟨oki34, ce34, hcl34, hM34, hcc34, hfr34, hoki34, hH34⟩ := Kd.S_elem HX34.out [] (x7_1 : Int) (Oa) (by have h_ : (x7_1 : Int) < ((x6_1.length : Int) : Int) := Oa; first | exact h_ | (have e_ := (Kd.S_reads' HO_6.out).1; omega) | simpa using h_); obtain ⟨ve34_0, rfl, ge34_0⟩ := hM34; have HP34 := Kd.S_seg hH34 (Oa) (by have h_ : (x7_1 : Int) < ((x6_1.length : Int) : Int) := Oa; first | exact h_ | (have e_ := (Kd.S_reads' HO_6.out).1; omega) | simpa using h_) (seg := [(.slice Av341 t340.length cv341)]) (j := 0) (show 1 ≤ 1 from by decide) (x' := t340) (Kd.M_row (Kd.R_mono (Kd.R_tight rfl (Kd.R_mono (ok' := fun k_ => ((fun _ => True)) k_ ∧ k_ ≠ go13) (Kd.R_apart' (HO342.out) (Kd.S_typed HO_6.out) (by decide)) (fun k_ hk => ⟨trivial, fun e_ => (hk.2) (by rw [e_]; rfl)⟩))) (fun _ h_ => Or.inr (h_)))) (fun _ hk => hk) (fun k_ hk_ => ((Kd.R_mono (ok' := fun k_ => ((fun _ => True)) k_ ∧ k_ ≠ go13) (Kd.R_apart' (HO342.out) (Kd.S_typed HO_6.out) (by decide)) (fun k_ hk => ⟨trivial, fun e_ => (hk.2) (by rw [e_]; rfl)⟩))).1 k_ hk_.symm); have hx34_0 := hcc34 0 _ rfl; (try simp only [show ((Kd.slice 4 Kd.bool)).sz = 1 from rfl, Nat.mul_one, Nat.add_zero] at hx34_0); have hf34_0 := hfr34 0; (try simp only [show ((Kd.slice 4 Kd.bool)).sz = 1 from rfl, Nat.mul_one, Nat.add_zero] at hf34_0); (try simp only [Int.toNat_natCast] at hx34_0 hf34_0); (try clear hcl34); (try clear hcc34); (try clear hfr34); (try clear hM34); (try clear hoki34); (try clear hH34); (try simp only [show ((Kd.slice 4 Kd.bool)).sz = 1 from rfl, Nat.mul_one, Nat.add_zero] at HP34)) | ((with_reducible refine gate_store (t := 47) (p := 47) rfl ?_); refine store_event (t := 47) (p := 47) (v := ?vo_w35) (w1 := (w33.setCell ⟨go13, (x7_1 : Int).toNat, none⟩ ((.slice Av341 t340.length cv341)))) ?hg ?ho ?hn ?hr ?_; (case ho => rfl); (case hg => rfl); (case hn => rfl); (case hr => first | (go_simp; done) | (go_simp; rfl)); intro w35 hw; have hg : w33.grownBy w35 (some go13) := (by rw [hw]; exact HP34.2); have hp_ : Kd.S (Kd.slice 4 Kd.bool) 47 w35 w.heap.size (fun _ => True) (.slice (some ⟨go13, 0, none⟩) x6_1.length co13) y343 := (by rw [hw, Ny343.out]; exact HP34.1); clear HP34; replace HO_6 := Aside0.mk (hp_); replace HL339_0 := Aside0.mk (Kd.R_after (v := (.slice (some ⟨go13, 0, none⟩) x6_1.length co13)) (v1 := (.slice (some ⟨go13, 0, none⟩) x6_1.length co13)) (ok := (fun k_ => some k_ ≠ ((.slice Av341 t340.length cv341) : Value).ownBlock)) (by (with_reducible repeat (first | apply Kd.R_alloc | apply Kd.R_drewN | apply Kd.R_drew)); exact Kd.R_mono HL339_0.out (fun _ hk => ⟨hk.2, hk.1.2⟩)) hg (.inl rfl)); replace HB := Aside0.mk ((by rw [hw]; exact below_set (HB.out) GB13.out : Below w.heap.size w w35)); clear HO342; clear hg hw hp_; have p344 : 0 ≤ (x7_1 : Int) := Oa; have q344 : x7_1 < (l0.length : Int) := Oa; obtain ⟨ad344, e344, hx344_0⟩ := Kd.at_int HR0.out x7_1 p344 q344; cases e344; replace hx344_0 := (HB.out.cell (World.block_lt_of_cell? w _ hx344_0)).trans hx344_0; replace p344 := eq_true p344; replace q344 := eq_true q344))
                             go_loopg [8] k1 (fun kq v8 w' => ∃ (x6_2 : List (List Bool)) (x8_2 : Int), v8 = .int .i64 x8_2 ∧ Aside0 (impl_firstWay.l1 kq l0 a1 x6_2 x7_1 x8_2 = some (r1, r2)) ∧ Aside0 (kq ≤ k1) ∧ Aside0 (Kd.S (Kd.slice 4 Kd.bool) 47 w' w.heap.size (fun _ => True) (.slice (some ⟨go13, 0, none⟩) x6_1.length co13) x6_2) ∧ Aside0 (Below w.heap.size w w'))
                             case atStart => exact ⟨(y343), (rd l0 x7_1), Rs, H', ⟨Nat.le_refl _⟩, ⟨by (try simp only [hl6_1]); (with_reducible repeat (first | apply Kd.S_alloc | apply Kd.S_drewN | apply Kd.S_drew)); exact HO_6.out⟩, ⟨Ub⟩⟩
                             case round =>
                              clear H'
                              try clear c4
                              try clear c4b0
                              try clear c6
                              try clear c6b0
                              try clear c6b1
                              try clear c7
                              try clear c7b0
                              try clear c7b1
                              try clear c9
                              try clear c9b0
                              try clear c9b1
                              try clear c10
                              try clear c10b0
                              try clear c10b1
                              try clear c11
                              try clear c11b0
                              try clear c11b1
                              try clear c12
                              try clear c12b0
                              try clear c12b1
                              try clear p13
                              try clear q13
                              try clear c14
                              try clear c14b0
                              try clear c14b1
                              try clear p15
                              try clear q15
                              try clear qi15
                              try clear c24
                              try clear c24b0
                              try clear c26
                              try clear c26b0
                              try clear c27
                              try clear c27b0
                              try clear c29
                              try clear c29b0
                              try clear c30
                              try clear c30b0
                              try clear p31
                              try clear q31
                              try clear c32
                              try clear c32b0
                              try clear hx13_0
                              try clear hx15_0
                              try clear hx20_0
                              try clear hx31_0
                              try clear hx335_0
                              try clear hx339_0
                              try clear hx344_0
                              try clear hx34_0
                              try clear p13
                              try clear p15
                              try clear p31
                              try clear p335
                              try clear p339
                              try clear p344
                              try clear q13
                              try clear q15
                              try clear q31
                              try clear q335
                              try clear q339
                              try clear q344
                              obtain ⟨x6_2, x8_2, rfl, HA, HK2, HO_6, HB⟩ := hrel
                              have hl6_2 := (Kd.S_reads' HO_6.out).1
                              rw [hl6_2] at HO_6
                              (try simp only [hl6_2])
                              cases gk with
                              | zero => exact absurd HA.out (by simp [impl_firstWay.l1])
                              | succ k2 =>
                               have H := HA.out
                               clear HA
                               simp only [impl_firstWay.l1] at H
                               by_cases c36 : x8_2 ≤ a1
                               · rw [if_pos c36] at H
                                 have c36b0 : decide (x8_2 ≤ a1) = true := decide_eq_true c36
                                 clear c36
                                 by_cases c37 : 0 ≤ x7_1
                                 · rw [if_pos c37] at H
                                   have c37b0 : decide (0 ≤ x7_1) = true := decide_eq_true c37
                                   clear c37
                                   by_cases c38 : x7_1 < (x6_2.length : Int)
                                   · rw [if_pos c38] at H
                                     have c38b0 : decide (x7_1 < (x6_2.length : Int)) = true := decide_eq_true c38
                                     clear c38
                                     by_cases c39 : 0 ≤ x8_2
                                     · rw [if_pos c39] at H
                                       have c39b0 : decide (0 ≤ x8_2) = true := decide_eq_true c39
                                       clear c39
                                       by_cases c40 : x8_2 < ((rd_L4 x6_2 x7_1).length : Int)
                                       · rw [if_pos c40] at H
                                         have c40b0 : decide (x8_2 < ((rd_L4 x6_2 x7_1).length : Int)) = true := decide_eq_true c40
                                         clear c40
                                         obtain ⟨bq41, hbq41⟩ : ∃ b_ : Bool, b_ = (rdOf false (rd_L4 x6_2 x7_1) x8_2) := ⟨_, rfl⟩
                                         replace H : (if bq41 = true then (impl_firstWay.l1 k2 l0 a1 (x6_2.set (x7_1 : Int).toNat ((rd_L4 x6_2 x7_1).set (x8_2 : Int).toNat true)) x7_1 (wrap64 (x8_2 + 1))) else (if 0 ≤ (wrap64 (x7_1 + 1)) then (if (wrap64 (x7_1 + 1)) < (x6_2.length : Int) then (if x7_1 < (l0.length : Int) then (if 0 ≤ (wrap64 (x8_2 - (rd l0 x7_1))) then (if (wrap64 (x8_2 - (rd l0 x7_1))) < ((rd_L4 x6_2 (wrap64 (x7_1 + 1))).length : Int) then (impl_firstWay.l1 k2 l0 a1 (x6_2.set (x7_1 : Int).toNat ((rd_L4 x6_2 x7_1).set (x8_2 : Int).toNat (rdOf false (rd_L4 x6_2 (wrap64 (x7_1 + 1))) (wrap64 (x8_2 - (rd l0 x7_1)))))) x7_1 (wrap64 (x8_2 + 1))) else (none)) else (none)) else (none)) else (none)) else (none))) = some (r1, r2) := by rw [← hbq41] at H; exact H
                                         have Nbq41 := Aside0.mk hbq41
                                         clear hbq41
                                         by_cases c42 : bq41 = true
                                         · subst c42
                                           have H1 : (impl_firstWay.l1 k2 l0 a1 (x6_2.set (x7_1 : Int).toNat ((rd_L4 x6_2 x7_1).set (x8_2 : Int).toNat true)) x7_1 (wrap64 (x8_2 + 1))) = some (r1, r2) := by rw [if_pos rfl] at H; exact H
                                           clear H
                                           have H := H1
                                           clear H1
                                           obtain ⟨y348, hy348⟩ : ∃ y_ : List Bool, y_ = ((rd_L4 x6_2 x7_1).set (x8_2 : Int).toNat true) := ⟨_, rfl⟩
                                           replace H : (impl_firstWay.l1 k2 l0 a1 (x6_2.set (x7_1 : Int).toNat y348) x7_1 (wrap64 (x8_2 + 1))) = some (r1, r2) := by first | (rw [hy348]; with_reducible exact H) | (have H2_ := (Option.bind_some _ _).symm.trans H; rw [hy348]; with_reducible exact H2_) | (have H2_ := (Option.bind_some _ _).symm.trans H; with_reducible exact H2_) | with_reducible exact H | (rw [hy348]; exact H) | exact H
                                           have Ny348 := Aside0.mk hy348
                                           clear hy348
                                           obtain ⟨y350, hy350⟩ : ∃ y_ : List (List Bool), y_ = (x6_2.set (x7_1 : Int).toNat y348) := ⟨_, rfl⟩
                                           replace H : (impl_firstWay.l1 k2 l0 a1 y350 x7_1 (wrap64 (x8_2 + 1))) = some (r1, r2) := by first | (rw [hy350]; with_reducible exact H) | (have H2_ := (Option.bind_some _ _).symm.trans H; rw [hy350]; with_reducible exact H2_) | (have H2_ := (Option.bind_some _ _).symm.trans H; with_reducible exact H2_) | with_reducible exact H | (rw [hy350]; exact H) | exact H
                                           have Ny350 := Aside0.mk hy350
                                           clear hy350
                                           have H' := Aside0.mk H
                                           clear H
                                           try go_wp2
                                           replace HO_6 := Aside0.mk (Kd.S_drew HO_6.out); replace HB := Aside0.mk (below_drew1 HB.out)
                                           have p345 : 0 ≤ (x7_1 : Int) := Oa
                                           have q345 : x7_1 < (x6_2.length : Int) := Oa
                                           obtain ⟨ad345, A345_0, c345_0, e345, hx345_0, hl345_0, hi345_0⟩ := at_L4 (Kd.S_reads' HO_6.out).2.2 x7_1 p345 q345
                                           obtain rfl : (⟨go13, 0, none⟩ : Addr) = ad345 := (by injection e345)
                                           obtain ⟨ce345, hce345, hMe345, hcc345⟩ := Kd.S_get HO_6.out [] x7_1 p345 (by first | exact q345 | exact Oa | (have e_ := (Kd.S_reads' HO_6.out).1; omega))
                                           obtain ⟨ve345_0, rfl, ge345_0⟩ := hMe345
                                           have hv345_0 := hcc345 0 _ rfl
                                           rw [Nat.add_zero, show ((Kd.slice 4 Kd.bool)).sz = 1 from rfl, Nat.mul_one] at hv345_0
                                           replace hv345_0 := Option.some.inj (hv345_0.symm.trans hx345_0)
                                           rw [hv345_0] at ge345_0
                                           have HL345_0 := Aside0.mk (show Kd.R Kd.bool 4 _ _ _ _ (rd_L4 x6_2 x7_1) from ge345_0)
                                           clear hv345_0 ge345_0
                                           have HX345_0 := Aside0.mk hx345_0
                                           clear hcc345 hce345
                                           (first | simp only [add_plain] at hx345_0 | simp only [add_at] at hx345_0 | simp only [Addr.add, Nat.zero_add] at hx345_0 | skip)
                                           have HR345_0 := Aside0.mk hi345_0
                                           have HC345_0 := Aside0.mk hl345_0
                                           clear hi345_0 hl345_0
                                           replace p345 := eq_true p345
                                           replace q345 := eq_true q345
                                           have p346 : 0 ≤ (x7_1 : Int) := Oa
                                           have q346 : x7_1 < (x6_2.length : Int) := Oa
                                           obtain ⟨ad346, A346_0, c346_0, e346, hx346_0, hl346_0, hi346_0⟩ := at_L4 (Kd.S_reads' HO_6.out).2.2 x7_1 p346 q346
                                           obtain rfl : (⟨go13, 0, none⟩ : Addr) = ad346 := (by injection e346)
                                           obtain ⟨ce346, hce346, hMe346, hcc346⟩ := Kd.S_get HO_6.out [] x7_1 p346 (by first | exact q346 | exact Oa | (have e_ := (Kd.S_reads' HO_6.out).1; omega))
                                           obtain ⟨ve346_0, rfl, ge346_0⟩ := hMe346
                                           have hv346_0 := hcc346 0 _ rfl
                                           rw [Nat.add_zero, show ((Kd.slice 4 Kd.bool)).sz = 1 from rfl, Nat.mul_one] at hv346_0
                                           replace hv346_0 := Option.some.inj (hv346_0.symm.trans hx346_0)
                                           rw [hv346_0] at ge346_0
                                           have HL346_0 := Aside0.mk (show Kd.R Kd.bool 4 _ _ _ _ (rd_L4 x6_2 x7_1) from ge346_0)
                                           clear hv346_0 ge346_0
                                           have HX346_0 := Aside0.mk hx346_0
                                           clear hcc346 hce346
                                           (first | simp only [add_plain] at hx346_0 | simp only [add_at] at hx346_0 | simp only [Addr.add, Nat.zero_add] at hx346_0 | skip)
                                           have HR346_0 := Aside0.mk hi346_0
                                           have HC346_0 := Aside0.mk hl346_0
                                           clear hi346_0 hl346_0
                                           replace p346 := eq_true p346
                                           replace q346 := eq_true q346
                                           have ea_ := Option.some.inj (hx345_0.symm.trans hx346_0)
                                           injection ea_ with ea_ en_ ec_
                                           subst ea_
                                           subst ec_
                                           clear en_
                                           have p347 : 0 ≤ (x8_2 : Int) := Oa
                                           have q347 : x8_2 < ((rd_L4 x6_2 x7_1).length : Int) := Oa
                                           obtain ⟨ad347, e347, hx347_0⟩ := Kd.at_bool (by repeat (first | (with_reducible exact HR346_0.out) | (with_reducible refine Kd.C_alloc ?_ _) | (with_reducible refine Kd.C_drewN ?_ _) | (with_reducible refine Kd.C_drew ?_) | exact HR346_0.out)) x8_2 p347 q347
                                           (try rw [← Nbq41.out] at hx347_0)
                                           cases e347
                                           replace p347 := eq_true p347
                                           replace q347 := eq_true q347
                                           have p43 : 0 ≤ (x8_2 : Int) := Oa
                                           have q43 : (x8_2 : Int) < (((rd_L4 x6_2 x7_1).length : Int) : Int) := Oa
                                           obtain ⟨go43, co43, eo43, gb43, gl43, cl43, HG43⟩ := Kd.R_form HL345_0.out (by omega)
                                           (first | cases eo43 | (injection eo43 with ea_ en_ ec_; (first | subst ea_ | (injection ea_ with ea_; subst ea_)); subst ec_; clear en_))
                                           have GB43 := Aside0.mk gb43
                                           have GG43 := Aside0.mk HG43
                                           clear gb43 gl43 HG43
                                           (first | simp only [add_plain] at hx347_0 | skip)
                                           obtain ⟨hx43_0, hf43_0⟩ := Kd.R_celln false HL345_0.out (x8_2 : Int) p43 q43
                                           replace p43 := eq_true p43
                                           replace q43 := eq_true q43
                                           have hq45 : (x7_1 : Int) < (x6_2.length : Int) := (by have h_ : (x7_1 : Int) < ((x6_2.length : Int) : Int) := Oa; first | exact h_ | (have e_ := (Kd.S_reads' HO_6.out).1; omega) | simpa only [List.length_set, List.length_set] using h_)
                                           obtain ⟨oki45, ce45, hcl45, hM45, hcc45, hok45, hbk45⟩ := Kd.S_borrow HO_6.out [] (x7_1 : Int) (Oa) hq45
                                           obtain ⟨ve45_0, rfl, ge45_0⟩ := hM45
                                           have hv45 := hcc45 0 _ rfl
                                           rw [Nat.add_zero, show ((Kd.slice 4 Kd.bool)).sz = 1 from rfl, Nat.mul_one] at hv45
                                           replace hv45 := Option.some.inj (hv45.symm.trans HX345_0.out)
                                           subst hv45
                                           (try clear hcc45); (try clear hcl45)
                                           replace ge45_0 := (show Kd.R Kd.bool 4 _ _ _ _ (rd_L4 x6_2 x7_1) from ge45_0)
                                           have HP45 := Kd.R_putg ge45_0 (x8_2 : Int) true
                                           rw [← Ny348.out] at HP45
                                           have HS45 := hbk45 HP45.2 (fun k_ e_ => by injection e_ with e_; subst e_; exact ge45_0.1 _ rfl) (x' := y348) (Kd.M_row HP45.1)
                                           rw [← Ny350.out] at HS45
                                           have HQ45 := Aside0.mk HS45
                                           clear HP45 HS45 hbk45 hok45
                                           refine start_ (n := 29) (S := fun w' => w'.cell? ⟨go13, (x7_1).toNat, none⟩ = some (.slice (some ⟨go43, 0, none⟩) (rd_L4 x6_2 x7_1).length c345_0) ∧ w'.cell? ⟨go13, (x7_1).toNat, none⟩ = some (.slice (some ⟨go43, 0, none⟩) (rd_L4 x6_2 x7_1).length c345_0) ∧ w'.cell? ⟨go43, (x8_2).toNat, none⟩ = some (.bool true)) (ds := [28]) #[false, false, false, false, false, false, false, false, false, false, false, false, false, false, false, false, false, false, false, false, false, false, false, false, false, false, false, false, false] (by kernel_rfl) rfl rfl ⟨hx345_0, hx346_0, hx347_0⟩ (fun hHeld => ?_); refine with_tabW impl_firstWay.tab13 impl_firstWay.bits13 (fun HT_ HW_ => ?_)
                                           generalize wr.drew = w44 at HO_6 HB GG43 HL345_0 HL346_0 HQ45 HR345_0 HR346_0 HX345_0 HX346_0 hf43_0 hx345_0 hx346_0 hx347_0 hx43_0 hHeld ⊢
                                           refine Pu 0 57 #[true, false, false, false, false, false, false, false, false, false, false, false, false, false, false, false, false, false, false, false, false, false, false, false, false, false, false, false, false] HT_.out ?_
                                           refine Pu 1 58 #[true, true, false, false, false, false, false, false, false, false, false, false, false, false, false, false, false, false, false, false, false, false, false, false, false, false, false, false, false] HT_.out ?_
                                           refine Pu 2 59 #[true, true, true, false, false, false, false, false, false, false, false, false, false, false, false, false, false, false, false, false, false, false, false, false, false, false, false, false, false] HT_.out ?_
                                           refine Pu 4 61 #[true, true, true, false, true, false, false, false, false, false, false, false, false, false, false, false, false, false, false, false, false, false, false, false, false, false, false, false, false] HT_.out ?_
                                           refine Pu 5 62 #[true, true, true, false, true, true, false, false, false, false, false, false, false, false, false, false, false, false, false, false, false, false, false, false, false, false, false, false, false] HT_.out ?_
                                           refine Pu 6 63 #[true, true, true, false, true, true, true, false, false, false, false, false, false, false, false, false, false, false, false, false, false, false, false, false, false, false, false, false, false] HT_.out ?_
                                           refine Pu 7 64 #[true, true, true, false, true, true, true, true, false, false, false, false, false, false, false, false, false, false, false, false, false, false, false, false, false, false, false, false, false] HT_.out ?_
                                           refine Pu 9 66 #[true, true, true, false, true, true, true, true, false, true, false, false, false, false, false, false, false, false, false, false, false, false, false, false, false, false, false, false, false] HT_.out ?_
                                           refine take_ (i := 3) (N := some 60) (v := ?_) (a' := ?_) #[true, true, true, true, true, true, true, true, false, true, false, false, false, false, false, false, false, false, false, false, false, false, false, false, false, false, false, false, false] rfl rfl (take_ofW HT_.out HW_.out (by kernel_rfl)) (fun _ _ _ h => h) (Or.inl ⟨by rfl, ?_⟩) hHeld ?_ ?_
                                           rotate_left
                                           · rintro w' ⟨s0, s1, s2⟩
                                             go_simp
                                             with_reducible rfl
                                           rotate_left
                                           · simp only [Act.put, List.setIfInBounds_toArray, List.set_cons_zero, List.set_cons_succ, i64_w, i32_w]
                                             rfl
                                           refine take_ (i := 8) (N := some 65) (v := ?_) (a' := ?_) #[true, true, true, true, true, true, true, true, true, true, false, false, false, false, false, false, false, false, false, false, false, false, false, false, false, false, false, false, false] rfl rfl (take_ofW HT_.out HW_.out (by kernel_rfl)) (fun _ _ _ h => h) (Or.inl ⟨by rfl, ?_⟩) hHeld ?_ ?_
                                           rotate_left
                                           · rintro w' ⟨s0, s1, s2⟩
                                             go_simp
                                             with_reducible rfl
                                           rotate_left
                                           · simp only [Act.put, List.setIfInBounds_toArray, List.set_cons_zero, List.set_cons_succ, i64_w, i32_w]
                                             rfl
                                           refine Pu 10 67 #[true, true, true, true, true, true, true, true, true, true, true, false, false, false, false, false, false, false, false, false, false, false, false, false, false, false, false, false, false] HT_.out ?_
                                           refine take_ (i := 11) (N := some 68) (v := ?_) (a' := ?_) #[true, true, true, true, true, true, true, true, true, true, true, true, false, false, false, false, false, false, false, false, false, false, false, false, false, false, false, false, false] rfl rfl (take_ofW HT_.out HW_.out (by kernel_rfl)) (fun _ _ _ h => h) (Or.inl ⟨by rfl, ?_⟩) hHeld ?_ ?_
                                           rotate_left
                                           · rintro w' ⟨s0, s1, s2⟩
                                             go_simp
                                             with_reducible rfl
                                           rotate_left
                                           · simp only [Act.put, List.setIfInBounds_toArray, List.set_cons_zero, List.set_cons_succ, i64_w, i32_w]
                                             rfl
                                           refine Pu 12 69 #[true, true, true, true, true, true, true, true, true, true, true, true, true, false, false, false, false, false, false, false, false, false, false, false, false, false, false, false, false] HT_.out ?_
                                           refine pure_ (i := 13) (N := some 70) (v := undef) (a' := ?_) #[true, true, true, true, true, true, true, true, true, true, true, true, true, true, false, false, false, false, false, false, false, false, false, false, false, false, false, false, false] rfl rfl (any_of HT_.out (by kernel_rfl)) (fun _ _ _ h => h) (Or.inr ⟨by rfl, rfl⟩) ?_ ?_
                                           rotate_left
                                           · simp only [Act.put, List.setIfInBounds_toArray, List.set_cons_zero, List.set_cons_succ, i64_w, i32_w]
                                             rfl
                                           refine pure_ (i := 14) (N := some 71) (v := undef) (a' := ?_) #[true, true, true, true, true, true, true, true, true, true, true, true, true, true, true, false, false, false, false, false, false, false, false, false, false, false, false, false, false] rfl rfl (any_of HT_.out (by kernel_rfl)) (fun _ _ _ h => h) (Or.inr ⟨by rfl, rfl⟩) ?_ ?_
                                           rotate_left
                                           · simp only [Act.put, List.setIfInBounds_toArray, List.set_cons_zero, List.set_cons_succ, i64_w, i32_w]
                                             rfl
                                           refine pure_ (i := 15) (N := some 72) (v := undef) (a' := ?_) #[true, true, true, true, true, true, true, true, true, true, true, true, true, true, true, true, false, false, false, false, false, false, false, false, false, false, false, false, false] rfl rfl (any_of HT_.out (by kernel_rfl)) (fun _ _ _ h => h) (Or.inr ⟨by rfl, rfl⟩) ?_ ?_
                                           rotate_left
                                           · simp only [Act.put, List.setIfInBounds_toArray, List.set_cons_zero, List.set_cons_succ, i64_w, i32_w]
                                             rfl
                                           refine pure_ (i := 16) (N := some 73) (v := undef) (a' := ?_) #[true, true, true, true, true, true, true, true, true, true, true, true, true, true, true, true, true, false, false, false, false, false, false, false, false, false, false, false, false] rfl rfl (any_of HT_.out (by kernel_rfl)) (fun _ _ _ h => h) (Or.inr ⟨by rfl, rfl⟩) ?_ ?_
                                           rotate_left
                                           · simp only [Act.put, List.setIfInBounds_toArray, List.set_cons_zero, List.set_cons_succ, i64_w, i32_w]
                                             rfl
                                           refine pure_ (i := 17) (N := some 74) (v := undef) (a' := ?_) #[true, true, true, true, true, true, true, true, true, true, true, true, true, true, true, true, true, true, false, false, false, false, false, false, false, false, false, false, false] rfl rfl (any_of HT_.out (by kernel_rfl)) (fun _ _ _ h => h) (Or.inr ⟨by rfl, rfl⟩) ?_ ?_
                                           rotate_left
                                           · simp only [Act.put, List.setIfInBounds_toArray, List.set_cons_zero, List.set_cons_succ, i64_w, i32_w]
                                             rfl
                                           refine pure_ (i := 18) (N := some 75) (v := undef) (a' := ?_) #[true, true, true, true, true, true, true, true, true, true, true, true, true, true, true, true, true, true, true, false, false, false, false, false, false, false, false, false, false] rfl rfl (any_of HT_.out (by kernel_rfl)) (fun _ _ _ h => h) (Or.inr ⟨by rfl, rfl⟩) ?_ ?_
                                           rotate_left
                                           · simp only [Act.put, List.setIfInBounds_toArray, List.set_cons_zero, List.set_cons_succ, i64_w, i32_w]
                                             rfl
                                           refine pure_ (i := 19) (N := some 76) (v := undef) (a' := ?_) #[true, true, true, true, true, true, true, true, true, true, true, true, true, true, true, true, true, true, true, true, false, false, false, false, false, false, false, false, false] rfl rfl (any_of HT_.out (by kernel_rfl)) (fun _ _ _ h => h) (Or.inr ⟨by rfl, rfl⟩) ?_ ?_
                                           rotate_left
                                           · simp only [Act.put, List.setIfInBounds_toArray, List.set_cons_zero, List.set_cons_succ, i64_w, i32_w]
                                             rfl
                                           refine pure_ (i := 20) (N := some 77) (v := undef) (a' := ?_) #[true, true, true, true, true, true, true, true, true, true, true, true, true, true, true, true, true, true, true, true, true, false, false, false, false, false, false, false, false] rfl rfl (any_of HT_.out (by kernel_rfl)) (fun _ _ _ h => h) (Or.inr ⟨by rfl, rfl⟩) ?_ ?_
                                           rotate_left
                                           · simp only [Act.put, List.setIfInBounds_toArray, List.set_cons_zero, List.set_cons_succ, i64_w, i32_w]
                                             rfl
                                           refine pure_ (i := 21) (N := some 78) (v := undef) (a' := ?_) #[true, true, true, true, true, true, true, true, true, true, true, true, true, true, true, true, true, true, true, true, true, true, false, false, false, false, false, false, false] rfl rfl (any_of HT_.out (by kernel_rfl)) (fun _ _ _ h => h) (Or.inr ⟨by rfl, rfl⟩) ?_ ?_
                                           rotate_left
                                           · simp only [Act.put, List.setIfInBounds_toArray, List.set_cons_zero, List.set_cons_succ, i64_w, i32_w]
                                             rfl
                                           refine pure_ (i := 22) (N := some 79) (v := undef) (a' := ?_) #[true, true, true, true, true, true, true, true, true, true, true, true, true, true, true, true, true, true, true, true, true, true, true, false, false, false, false, false, false] rfl rfl (any_of HT_.out (by kernel_rfl)) (fun _ _ _ h => h) (Or.inr ⟨by rfl, rfl⟩) ?_ ?_
                                           rotate_left
                                           · simp only [Act.put, List.setIfInBounds_toArray, List.set_cons_zero, List.set_cons_succ, i64_w, i32_w]
                                             rfl
                                           refine pure_ (i := 23) (N := some 80) (v := undef) (a' := ?_) #[true, true, true, true, true, true, true, true, true, true, true, true, true, true, true, true, true, true, true, true, true, true, true, true, false, false, false, false, false] rfl rfl (any_of HT_.out (by kernel_rfl)) (fun _ _ _ h => h) (Or.inr ⟨by rfl, rfl⟩) ?_ ?_
                                           rotate_left
                                           · simp only [Act.put, List.setIfInBounds_toArray, List.set_cons_zero, List.set_cons_succ, i64_w, i32_w]
                                             rfl
                                           refine pure_ (i := 24) (N := some 81) (v := undef) (a' := ?_) #[true, true, true, true, true, true, true, true, true, true, true, true, true, true, true, true, true, true, true, true, true, true, true, true, true, false, false, false, false] rfl rfl (any_of HT_.out (by kernel_rfl)) (fun _ _ _ h => h) (Or.inr ⟨by rfl, rfl⟩) ?_ ?_
                                           rotate_left
                                           · simp only [Act.put, List.setIfInBounds_toArray, List.set_cons_zero, List.set_cons_succ, i64_w, i32_w]
                                             rfl
                                           refine pure_ (i := 25) (N := some 82) (v := undef) (a' := ?_) #[true, true, true, true, true, true, true, true, true, true, true, true, true, true, true, true, true, true, true, true, true, true, true, true, true, true, false, false, false] rfl rfl (any_of HT_.out (by kernel_rfl)) (fun _ _ _ h => h) (Or.inr ⟨by rfl, rfl⟩) ?_ ?_
                                           rotate_left
                                           · simp only [Act.put, List.setIfInBounds_toArray, List.set_cons_zero, List.set_cons_succ, i64_w, i32_w]
                                             rfl
                                           refine Pu 26 83 #[true, true, true, true, true, true, true, true, true, true, true, true, true, true, true, true, true, true, true, true, true, true, true, true, true, true, true, false, false] HT_.out ?_
                                           refine Pu 27 84 #[true, true, true, true, true, true, true, true, true, true, true, true, true, true, true, true, true, true, true, true, true, true, true, true, true, true, true, true, false] HT_.out ?_
                                           refine last_ (i := 28) (N := none) #[true, true, true, true, true, true, true, true, true, true, true, true, true, true, true, true, true, true, true, true, true, true, true, true, true, true, true, true, true] rfl rfl (one_of HT_.out (by kernel_rfl)) (by decide) (fun K hK => ?_)
                                           refine skip_ (w1 := ?_) (by rfl) rfl ?_ ?_
                                           rotate_left
                                           · go_simp
                                             rfl
                                           refine hK.out _ _ ?_
                                           clear hK K
                                           refine done_ (done_of HT_.out (by kernel_rfl)) ?_
                                           try go_wp2
                                           (try simp only [← hl6_2])
                                           go_roundg k2
                                           case measure => have := HK1.out; have := HK2.out; omega
                                           case rel => exact ⟨(y350), (wrap64 (x8_2 + 1)), Rs, H', ⟨by have := HK1.out; have := HK2.out; omega⟩, ⟨by (try simp only [hl6_1]); (try simp only [hl6_2]); (with_reducible repeat (first | apply Kd.S_alloc | apply Kd.S_drewN | apply Kd.S_drew)); exact HQ45.out⟩, ⟨by repeat (first | (with_reducible first | exact HB.out | apply below_alloc | apply pw_below_drewN | apply below_drew1 | refine below_set ?_ GB43.out) | exact HB.out)⟩⟩
                                         replace c42 := Bool.eq_false_iff.mpr c42
                                         subst c42
                                         have H1 : (if 0 ≤ (wrap64 (x7_1 + 1)) then (if (wrap64 (x7_1 + 1)) < (x6_2.length : Int) then (if x7_1 < (l0.length : Int) then (if 0 ≤ (wrap64 (x8_2 - (rd l0 x7_1))) then (if (wrap64 (x8_2 - (rd l0 x7_1))) < ((rd_L4 x6_2 (wrap64 (x7_1 + 1))).length : Int) then (impl_firstWay.l1 k2 l0 a1 (x6_2.set (x7_1 : Int).toNat ((rd_L4 x6_2 x7_1).set (x8_2 : Int).toNat (rdOf false (rd_L4 x6_2 (wrap64 (x7_1 + 1))) (wrap64 (x8_2 - (rd l0 x7_1)))))) x7_1 (wrap64 (x8_2 + 1))) else (none)) else (none)) else (none)) else (none)) else (none)) = some (r1, r2) := by rw [if_neg (show ¬ (false = true) by decide)] at H; exact H
                                         clear H
                                         have H := H1
                                         clear H1
                                         obtain ⟨ji47, hji47⟩ : ∃ j_ : Int, (wrap64 (x7_1 + 1)) = j_ := ⟨_, rfl⟩
                                         replace H : (if 0 ≤ (ji47) then (if (ji47) < (x6_2.length : Int) then (if x7_1 < (l0.length : Int) then (if 0 ≤ (wrap64 (x8_2 - (rd l0 x7_1))) then (if (wrap64 (x8_2 - (rd l0 x7_1))) < ((rd_L4 x6_2 (ji47)).length : Int) then (impl_firstWay.l1 k2 l0 a1 (x6_2.set (x7_1 : Int).toNat ((rd_L4 x6_2 x7_1).set (x8_2 : Int).toNat (rdOf false (rd_L4 x6_2 (ji47)) (wrap64 (x8_2 - (rd l0 x7_1)))))) x7_1 (wrap64 (x8_2 + 1))) else (none)) else (none)) else (none)) else (none)) else (none)) = some (r1, r2) := by first | (rw [hji47] at H; exact H) | (simp only [hji47] at H ⊢; exact H)
                                         have hji47w : (IntKind.i64.wrap (x7_1 + 1)) = ji47 := (i64_w _).trans hji47
                                         obtain rfl : ji47 = ji25 := hji47.symm.trans hji25
                                         by_cases c48 : 0 ≤ (ji47)
                                         · rw [if_pos c48] at H
                                           have c48b0 : decide (0 ≤ (ji47)) = true := decide_eq_true c48
                                           clear c48
                                           by_cases c49 : (ji47) < (x6_2.length : Int)
                                           · rw [if_pos c49] at H
                                             have c49b0 : decide ((ji47) < (x6_2.length : Int)) = true := decide_eq_true c49
                                             clear c49
                                             by_cases c50 : x7_1 < (l0.length : Int)
                                             · rw [if_pos c50] at H
                                               have c50b0 : decide (x7_1 < (l0.length : Int)) = true := decide_eq_true c50
                                               clear c50
                                               obtain ⟨ji51, hji51⟩ : ∃ j_ : Int, (wrap64 (x8_2 - (rd l0 x7_1))) = j_ := ⟨_, rfl⟩
                                               replace H : (if 0 ≤ (ji51) then (if (ji51) < ((rd_L4 x6_2 (ji47)).length : Int) then (impl_firstWay.l1 k2 l0 a1 (x6_2.set (x7_1 : Int).toNat ((rd_L4 x6_2 x7_1).set (x8_2 : Int).toNat (rdOf false (rd_L4 x6_2 (ji47)) (ji51)))) x7_1 (wrap64 (x8_2 + 1))) else (none)) else (none)) = some (r1, r2) := by first | (rw [hji51] at H; exact H) | (simp only [hji51] at H ⊢; exact H)
                                               have hji51w : (IntKind.i64.wrap (x8_2 - (rd l0 x7_1))) = ji51 := (i64_w _).trans hji51
                                               by_cases c52 : 0 ≤ (ji51)
                                               · rw [if_pos c52] at H
                                                 have c52b0 : decide (0 ≤ (ji51)) = true := decide_eq_true c52
                                                 clear c52
                                                 by_cases c53 : (ji51) < ((rd_L4 x6_2 (ji47)).length : Int)
                                                 · rw [if_pos c53] at H
                                                   have c53b0 : decide ((ji51) < ((rd_L4 x6_2 (ji47)).length : Int)) = true := decide_eq_true c53
                                                   clear c53
                                                   obtain ⟨y354, hy354⟩ : ∃ y_ : List Bool, y_ = ((rd_L4 x6_2 x7_1).set (x8_2 : Int).toNat (rdOf false (rd_L4 x6_2 (ji47)) (ji51))) := ⟨_, rfl⟩
                                                   replace H : (impl_firstWay.l1 k2 l0 a1 (x6_2.set (x7_1 : Int).toNat y354) x7_1 (wrap64 (x8_2 + 1))) = some (r1, r2) := by first | (rw [hy354]; with_reducible exact H) | (have H2_ := (Option.bind_some _ _).symm.trans H; rw [hy354]; with_reducible exact H2_) | (have H2_ := (Option.bind_some _ _).symm.trans H; with_reducible exact H2_) | with_reducible exact H | (rw [hy354]; exact H) | exact H
                                                   have Ny354 := Aside0.mk hy354
                                                   clear hy354
                                                   obtain ⟨y356, hy356⟩ : ∃ y_ : List (List Bool), y_ = (x6_2.set (x7_1 : Int).toNat y354) := ⟨_, rfl⟩
                                                   replace H : (impl_firstWay.l1 k2 l0 a1 y356 x7_1 (wrap64 (x8_2 + 1))) = some (r1, r2) := by first | (rw [hy356]; with_reducible exact H) | (have H2_ := (Option.bind_some _ _).symm.trans H; rw [hy356]; with_reducible exact H2_) | (have H2_ := (Option.bind_some _ _).symm.trans H; with_reducible exact H2_) | with_reducible exact H | (rw [hy356]; exact H) | exact H
                                                   have Ny356 := Aside0.mk hy356
                                                   clear hy356
                                                   have H' := Aside0.mk H
                                                   clear H
                                                   try go_wp2
                                                   replace HO_6 := Aside0.mk (Kd.S_drew HO_6.out); replace HB := Aside0.mk (below_drew1 HB.out)
                                                   have p345 : 0 ≤ (x7_1 : Int) := Oa
                                                   have q345 : x7_1 < (x6_2.length : Int) := Oa
                                                   obtain ⟨ad345, A345_0, c345_0, e345, hx345_0, hl345_0, hi345_0⟩ := at_L4 (Kd.S_reads' HO_6.out).2.2 x7_1 p345 q345
                                                   obtain rfl : (⟨go13, 0, none⟩ : Addr) = ad345 := (by injection e345)
                                                   obtain ⟨ce345, hce345, hMe345, hcc345⟩ := Kd.S_get HO_6.out [] x7_1 p345 (by first | exact q345 | exact Oa | (have e_ := (Kd.S_reads' HO_6.out).1; omega))
                                                   obtain ⟨ve345_0, rfl, ge345_0⟩ := hMe345
                                                   have hv345_0 := hcc345 0 _ rfl
                                                   rw [Nat.add_zero, show ((Kd.slice 4 Kd.bool)).sz = 1 from rfl, Nat.mul_one] at hv345_0
                                                   replace hv345_0 := Option.some.inj (hv345_0.symm.trans hx345_0)
                                                   rw [hv345_0] at ge345_0
                                                   have HL345_0 := Aside0.mk (show Kd.R Kd.bool 4 _ _ _ _ (rd_L4 x6_2 x7_1) from ge345_0)
                                                   clear hv345_0 ge345_0
                                                   have HX345_0 := Aside0.mk hx345_0
                                                   clear hcc345 hce345
                                                   (first | simp only [add_plain] at hx345_0 | simp only [add_at] at hx345_0 | simp only [Addr.add, Nat.zero_add] at hx345_0 | skip)
                                                   have HR345_0 := Aside0.mk hi345_0
                                                   have HC345_0 := Aside0.mk hl345_0
                                                   clear hi345_0 hl345_0
                                                   replace p345 := eq_true p345
                                                   replace q345 := eq_true q345
                                                   have p346 : 0 ≤ (x7_1 : Int) := Oa
                                                   have q346 : x7_1 < (x6_2.length : Int) := Oa
                                                   obtain ⟨ad346, A346_0, c346_0, e346, hx346_0, hl346_0, hi346_0⟩ := at_L4 (Kd.S_reads' HO_6.out).2.2 x7_1 p346 q346
                                                   obtain rfl : (⟨go13, 0, none⟩ : Addr) = ad346 := (by injection e346)
                                                   obtain ⟨ce346, hce346, hMe346, hcc346⟩ := Kd.S_get HO_6.out [] x7_1 p346 (by first | exact q346 | exact Oa | (have e_ := (Kd.S_reads' HO_6.out).1; omega))
                                                   obtain ⟨ve346_0, rfl, ge346_0⟩ := hMe346
                                                   have hv346_0 := hcc346 0 _ rfl
                                                   rw [Nat.add_zero, show ((Kd.slice 4 Kd.bool)).sz = 1 from rfl, Nat.mul_one] at hv346_0
                                                   replace hv346_0 := Option.some.inj (hv346_0.symm.trans hx346_0)
                                                   rw [hv346_0] at ge346_0
                                                   have HL346_0 := Aside0.mk (show Kd.R Kd.bool 4 _ _ _ _ (rd_L4 x6_2 x7_1) from ge346_0)
                                                   clear hv346_0 ge346_0
                                                   have HX346_0 := Aside0.mk hx346_0
                                                   clear hcc346 hce346
                                                   (first | simp only [add_plain] at hx346_0 | simp only [add_at] at hx346_0 | simp only [Addr.add, Nat.zero_add] at hx346_0 | skip)
                                                   have HR346_0 := Aside0.mk hi346_0
                                                   have HC346_0 := Aside0.mk hl346_0
                                                   clear hi346_0 hl346_0
                                                   replace p346 := eq_true p346
                                                   replace q346 := eq_true q346
                                                   have ea_ := Option.some.inj (hx345_0.symm.trans hx346_0)
                                                   injection ea_ with ea_ en_ ec_
                                                   subst ea_
                                                   subst ec_
                                                   clear en_
                                                   have p347 : 0 ≤ (x8_2 : Int) := Oa
                                                   have q347 : x8_2 < ((rd_L4 x6_2 x7_1).length : Int) := Oa
                                                   obtain ⟨ad347, e347, hx347_0⟩ := Kd.at_bool (by repeat (first | (with_reducible exact HR346_0.out) | (with_reducible refine Kd.C_alloc ?_ _) | (with_reducible refine Kd.C_drewN ?_ _) | (with_reducible refine Kd.C_drew ?_) | exact HR346_0.out)) x8_2 p347 q347
                                                   (try rw [← Nbq41.out] at hx347_0)
                                                   cases e347
                                                   replace p347 := eq_true p347
                                                   replace q347 := eq_true q347
                                                   have p351 : 0 ≤ ((ji47) : Int) := Oa
                                                   have q351 : (ji47) < (x6_2.length : Int) := Oa
                                                   obtain ⟨ad351, A351_0, c351_0, e351, hx351_0, hl351_0, hi351_0⟩ := at_L4 (Kd.S_reads' HO_6.out).2.2 (ji47) p351 q351
                                                   obtain rfl : (⟨go13, 0, none⟩ : Addr) = ad351 := (by injection e351)
                                                   obtain ⟨ce351, hce351, hMe351, hcc351⟩ := Kd.S_get HO_6.out [] (ji47) p351 (by first | exact q351 | exact Oa | (have e_ := (Kd.S_reads' HO_6.out).1; omega))
                                                   obtain ⟨ve351_0, rfl, ge351_0⟩ := hMe351
                                                   have hv351_0 := hcc351 0 _ rfl
                                                   rw [Nat.add_zero, show ((Kd.slice 4 Kd.bool)).sz = 1 from rfl, Nat.mul_one] at hv351_0
                                                   replace hv351_0 := Option.some.inj (hv351_0.symm.trans hx351_0)
                                                   rw [hv351_0] at ge351_0
                                                   have HL351_0 := Aside0.mk (show Kd.R Kd.bool 4 _ _ _ _ (rd_L4 x6_2 (ji47)) from ge351_0)
                                                   clear hv351_0 ge351_0
                                                   have HX351_0 := Aside0.mk hx351_0
                                                   clear hcc351 hce351
                                                   (first | simp only [add_plain] at hx351_0 | simp only [add_at] at hx351_0 | simp only [Addr.add, Nat.zero_add] at hx351_0 | skip)
                                                   have HR351_0 := Aside0.mk hi351_0
                                                   have HC351_0 := Aside0.mk hl351_0
                                                   clear hi351_0 hl351_0
                                                   replace p351 := eq_true p351
                                                   replace q351 := eq_true q351
                                                   have p352 : 0 ≤ (x7_1 : Int) := Oa
                                                   have q352 : x7_1 < (l0.length : Int) := Oa
                                                   obtain ⟨ad352, e352, hx352_0⟩ := Kd.at_int HR0.out x7_1 p352 q352
                                                   have hw352_0 := hx352_0
                                                   obtain rfl : ad344 = ad352 := (by injection e352)
                                                   replace hx352_0 := (HB.out.cell (World.block_lt_of_cell? w _ hx352_0)).trans hx352_0
                                                   replace p352 := eq_true p352
                                                   replace q352 := eq_true q352
                                                   have p353 : 0 ≤ ((ji51) : Int) := Oa
                                                   have q353 : (ji51) < ((rd_L4 x6_2 (ji47)).length : Int) := Oa
                                                   obtain ⟨ad353, e353, hx353_0⟩ := Kd.at_bool (by repeat (first | (with_reducible exact HR351_0.out) | (with_reducible refine Kd.C_alloc ?_ _) | (with_reducible refine Kd.C_drewN ?_ _) | (with_reducible refine Kd.C_drew ?_) | exact HR351_0.out)) (ji51) p353 q353
                                                   (try rw [← Nbq41.out] at hx353_0)
                                                   cases e353
                                                   replace p353 := eq_true p353
                                                   replace q353 := eq_true q353
                                                   have p54 : 0 ≤ (x8_2 : Int) := Oa
                                                   have q54 : (x8_2 : Int) < (((rd_L4 x6_2 x7_1).length : Int) : Int) := Oa
                                                   obtain ⟨go54, co54, eo54, gb54, gl54, cl54, HG54⟩ := Kd.R_form HL345_0.out (by omega)
                                                   (first | cases eo54 | (injection eo54 with ea_ en_ ec_; (first | subst ea_ | (injection ea_ with ea_; subst ea_)); subst ec_; clear en_))
                                                   have GB54 := Aside0.mk gb54
                                                   have GG54 := Aside0.mk HG54
                                                   clear gb54 gl54 HG54
                                                   (first | simp only [add_plain] at hx347_0 | skip)
                                                   obtain ⟨hx54_0, hf54_0⟩ := Kd.R_celln false HL345_0.out (x8_2 : Int) p54 q54
                                                   replace p54 := eq_true p54
                                                   replace q54 := eq_true q54
                                                   have hq56 : (x7_1 : Int) < (x6_2.length : Int) := (by have h_ : (x7_1 : Int) < ((x6_2.length : Int) : Int) := Oa; first | exact h_ | (have e_ := (Kd.S_reads' HO_6.out).1; omega) | simpa only [List.length_set, List.length_set] using h_)
                                                   obtain ⟨oki56, ce56, hcl56, hM56, hcc56, hok56, hbk56⟩ := Kd.S_borrow HO_6.out [] (x7_1 : Int) (Oa) hq56
                                                   obtain ⟨ve56_0, rfl, ge56_0⟩ := hM56
                                                   have hv56 := hcc56 0 _ rfl
                                                   rw [Nat.add_zero, show ((Kd.slice 4 Kd.bool)).sz = 1 from rfl, Nat.mul_one] at hv56
                                                   replace hv56 := Option.some.inj (hv56.symm.trans HX345_0.out)
                                                   subst hv56
                                                   (try clear hcc56); (try clear hcl56)
                                                   replace ge56_0 := (show Kd.R Kd.bool 4 _ _ _ _ (rd_L4 x6_2 x7_1) from ge56_0)
                                                   have HP56 := Kd.R_putg ge56_0 (x8_2 : Int) (rdOf false (rd_L4 x6_2 (ji47)) (ji51))
                                                   rw [← Ny354.out] at HP56
                                                   have HS56 := hbk56 HP56.2 (fun k_ e_ => by injection e_ with e_; subst e_; exact ge56_0.1 _ rfl) (x' := y354) (Kd.M_row HP56.1)
                                                   rw [← Ny356.out] at HS56
                                                   have HQ56 := Aside0.mk HS56
                                                   clear HP56 HS56 hbk56 hok56
                                                   refine start_ (n := 29) (S := fun w' => w'.cell? ⟨go13, (x7_1).toNat, none⟩ = some (.slice (some ⟨go54, 0, none⟩) (rd_L4 x6_2 x7_1).length c345_0) ∧ w'.cell? ⟨go13, (x7_1).toNat, none⟩ = some (.slice (some ⟨go54, 0, none⟩) (rd_L4 x6_2 x7_1).length c345_0) ∧ w'.cell? ⟨go54, (x8_2).toNat, none⟩ = some (.bool false) ∧ w'.cell? ⟨go13, ((ji47)).toNat, none⟩ = some (.slice (some ad353) (rd_L4 x6_2 (ji47)).length c351_0) ∧ w'.cell? (ad344.add (x7_1).toNat) = some (.int .i64 (rd l0 x7_1)) ∧ w'.cell? (ad353.add ((ji51)).toNat) = some (.bool (rdOf false (rd_L4 x6_2 (ji47)) (ji51)))) (ds := [28]) #[false, false, false, false, false, false, false, false, false, false, false, false, false, false, false, false, false, false, false, false, false, false, false, false, false, false, false, false, false] (by kernel_rfl) rfl rfl ⟨hx345_0, hx346_0, hx347_0, hx351_0, ((HB.out.cell (World.block_lt_of_cell? w _ hw352_0)).trans hw352_0), hx353_0⟩ (fun hHeld => ?_); refine with_tabW impl_firstWay.tab13 impl_firstWay.bits13 (fun HT_ HW_ => ?_)
                                                   generalize wr.drew = w55 at HO_6 HB GG54 HL345_0 HL346_0 HL351_0 HQ56 HR345_0 HR346_0 HR351_0 HX345_0 HX346_0 HX351_0 hf54_0 hx345_0 hx346_0 hx347_0 hx351_0 hx352_0 hx353_0 hx54_0 hHeld ⊢
                                                   refine Pu 0 57 #[true, false, false, false, false, false, false, false, false, false, false, false, false, false, false, false, false, false, false, false, false, false, false, false, false, false, false, false, false] HT_.out ?_
                                                   refine Pu 1 58 #[true, true, false, false, false, false, false, false, false, false, false, false, false, false, false, false, false, false, false, false, false, false, false, false, false, false, false, false, false] HT_.out ?_
                                                   refine Pu 2 59 #[true, true, true, false, false, false, false, false, false, false, false, false, false, false, false, false, false, false, false, false, false, false, false, false, false, false, false, false, false] HT_.out ?_
                                                   refine Pu 4 61 #[true, true, true, false, true, false, false, false, false, false, false, false, false, false, false, false, false, false, false, false, false, false, false, false, false, false, false, false, false] HT_.out ?_
                                                   refine Pu 5 62 #[true, true, true, false, true, true, false, false, false, false, false, false, false, false, false, false, false, false, false, false, false, false, false, false, false, false, false, false, false] HT_.out ?_
                                                   refine Pu 6 63 #[true, true, true, false, true, true, true, false, false, false, false, false, false, false, false, false, false, false, false, false, false, false, false, false, false, false, false, false, false] HT_.out ?_
                                                   refine Pu 7 64 #[true, true, true, false, true, true, true, true, false, false, false, false, false, false, false, false, false, false, false, false, false, false, false, false, false, false, false, false, false] HT_.out ?_
                                                   refine Pu 9 66 #[true, true, true, false, true, true, true, true, false, true, false, false, false, false, false, false, false, false, false, false, false, false, false, false, false, false, false, false, false] HT_.out ?_
                                                   refine take_ (i := 3) (N := some 60) (v := ?_) (a' := ?_) #[true, true, true, true, true, true, true, true, false, true, false, false, false, false, false, false, false, false, false, false, false, false, false, false, false, false, false, false, false] rfl rfl (take_ofW HT_.out HW_.out (by kernel_rfl)) (fun _ _ _ h => h) (Or.inl ⟨by rfl, ?_⟩) hHeld ?_ ?_
                                                   rotate_left
                                                   · rintro w' ⟨s0, s1, s2, s3, s4, s5⟩
                                                     go_simp
                                                     with_reducible rfl
                                                   rotate_left
                                                   · simp only [Act.put, List.setIfInBounds_toArray, List.set_cons_zero, List.set_cons_succ, i64_w, i32_w]
                                                     rfl
                                                   refine take_ (i := 8) (N := some 65) (v := ?_) (a' := ?_) #[true, true, true, true, true, true, true, true, true, true, false, false, false, false, false, false, false, false, false, false, false, false, false, false, false, false, false, false, false] rfl rfl (take_ofW HT_.out HW_.out (by kernel_rfl)) (fun _ _ _ h => h) (Or.inl ⟨by rfl, ?_⟩) hHeld ?_ ?_
                                                   rotate_left
                                                   · rintro w' ⟨s0, s1, s2, s3, s4, s5⟩
                                                     go_simp
                                                     with_reducible rfl
                                                   rotate_left
                                                   · simp only [Act.put, List.setIfInBounds_toArray, List.set_cons_zero, List.set_cons_succ, i64_w, i32_w]
                                                     rfl
                                                   refine Pu 10 67 #[true, true, true, true, true, true, true, true, true, true, true, false, false, false, false, false, false, false, false, false, false, false, false, false, false, false, false, false, false] HT_.out ?_
                                                   refine take_ (i := 11) (N := some 68) (v := ?_) (a' := ?_) #[true, true, true, true, true, true, true, true, true, true, true, true, false, false, false, false, false, false, false, false, false, false, false, false, false, false, false, false, false] rfl rfl (take_ofW HT_.out HW_.out (by kernel_rfl)) (fun _ _ _ h => h) (Or.inl ⟨by rfl, ?_⟩) hHeld ?_ ?_
                                                   rotate_left
                                                   · rintro w' ⟨s0, s1, s2, s3, s4, s5⟩
                                                     go_simp
                                                     with_reducible rfl
                                                   rotate_left
                                                   · simp only [Act.put, List.setIfInBounds_toArray, List.set_cons_zero, List.set_cons_succ, i64_w, i32_w]
                                                     rfl
                                                   refine Pu 12 69 #[true, true, true, true, true, true, true, true, true, true, true, true, true, false, false, false, false, false, false, false, false, false, false, false, false, false, false, false, false] HT_.out ?_
                                                   refine Pu 13 70 #[true, true, true, true, true, true, true, true, true, true, true, true, true, true, false, false, false, false, false, false, false, false, false, false, false, false, false, false, false] HT_.out ?_
                                                   refine Pu 14 71 #[true, true, true, true, true, true, true, true, true, true, true, true, true, true, true, false, false, false, false, false, false, false, false, false, false, false, false, false, false] HT_.out ?_
                                                   refine Pu 15 72 #[true, true, true, true, true, true, true, true, true, true, true, true, true, true, true, true, false, false, false, false, false, false, false, false, false, false, false, false, false] HT_.out ?_
                                                   refine Pu 16 73 #[true, true, true, true, true, true, true, true, true, true, true, true, true, true, true, true, true, false, false, false, false, false, false, false, false, false, false, false, false] HT_.out ?_
                                                   refine Pu 18 75 #[true, true, true, true, true, true, true, true, true, true, true, true, true, true, true, true, true, false, true, false, false, false, false, false, false, false, false, false, false] HT_.out ?_
                                                   refine Pu 19 76 #[true, true, true, true, true, true, true, true, true, true, true, true, true, true, true, true, true, false, true, true, false, false, false, false, false, false, false, false, false] HT_.out ?_
                                                   refine Pu 20 77 #[true, true, true, true, true, true, true, true, true, true, true, true, true, true, true, true, true, false, true, true, true, false, false, false, false, false, false, false, false] HT_.out ?_
                                                   refine Pu 21 78 #[true, true, true, true, true, true, true, true, true, true, true, true, true, true, true, true, true, false, true, true, true, true, false, false, false, false, false, false, false] HT_.out ?_
                                                   refine take_ (i := 17) (N := some 74) (v := ?_) (a' := ?_) #[true, true, true, true, true, true, true, true, true, true, true, true, true, true, true, true, true, true, true, true, true, true, false, false, false, false, false, false, false] rfl rfl (take_ofW HT_.out HW_.out (by kernel_rfl)) (fun _ _ _ h => h) (Or.inl ⟨by rfl, ?_⟩) hHeld ?_ ?_
                                                   rotate_left
                                                   · rintro w' ⟨s0, s1, s2, s3, s4, s5⟩
                                                     go_simp
                                                     with_reducible rfl
                                                   rotate_left
                                                   · simp only [Act.put, List.setIfInBounds_toArray, List.set_cons_zero, List.set_cons_succ, i64_w, i32_w]
                                                     rfl
                                                   refine take_ (i := 22) (N := some 79) (v := ?_) (a' := ?_) #[true, true, true, true, true, true, true, true, true, true, true, true, true, true, true, true, true, true, true, true, true, true, true, false, false, false, false, false, false] rfl rfl (take_ofW HT_.out HW_.out (by kernel_rfl)) (fun _ _ _ h => h) (Or.inl ⟨by rfl, ?_⟩) hHeld ?_ ?_
                                                   rotate_left
                                                   · rintro w' ⟨s0, s1, s2, s3, s4, s5⟩
                                                     go_simp
                                                     with_reducible rfl
                                                   rotate_left
                                                   · simp only [Act.put, List.setIfInBounds_toArray, List.set_cons_zero, List.set_cons_succ, i64_w, i32_w]
                                                     rfl
                                                   refine Pu 23 80 #[true, true, true, true, true, true, true, true, true, true, true, true, true, true, true, true, true, true, true, true, true, true, true, true, false, false, false, false, false] HT_.out ?_
                                                   refine Pu 24 81 #[true, true, true, true, true, true, true, true, true, true, true, true, true, true, true, true, true, true, true, true, true, true, true, true, true, false, false, false, false] HT_.out ?_
                                                   refine take_ (i := 25) (N := some 82) (v := ?_) (a' := ?_) #[true, true, true, true, true, true, true, true, true, true, true, true, true, true, true, true, true, true, true, true, true, true, true, true, true, true, false, false, false] rfl rfl (take_ofW HT_.out HW_.out (by kernel_rfl)) (fun _ _ _ h => h) (Or.inl ⟨by rfl, ?_⟩) hHeld ?_ ?_
                                                   rotate_left
                                                   · rintro w' ⟨s0, s1, s2, s3, s4, s5⟩
                                                     go_simp
                                                     with_reducible rfl
                                                   rotate_left
                                                   · simp only [Act.put, List.setIfInBounds_toArray, List.set_cons_zero, List.set_cons_succ, i64_w, i32_w]
                                                     rfl
                                                   refine Pu 26 83 #[true, true, true, true, true, true, true, true, true, true, true, true, true, true, true, true, true, true, true, true, true, true, true, true, true, true, true, false, false] HT_.out ?_
                                                   refine Pu 27 84 #[true, true, true, true, true, true, true, true, true, true, true, true, true, true, true, true, true, true, true, true, true, true, true, true, true, true, true, true, false] HT_.out ?_
                                                   refine last_ (i := 28) (N := none) #[true, true, true, true, true, true, true, true, true, true, true, true, true, true, true, true, true, true, true, true, true, true, true, true, true, true, true, true, true] rfl rfl (one_of HT_.out (by kernel_rfl)) (by decide) (fun K hK => ?_)
                                                   refine skip_ (w1 := ?_) (by rfl) rfl ?_ ?_
                                                   rotate_left
                                                   · go_simp
                                                     rfl
                                                   refine hK.out _ _ ?_
                                                   clear hK K
                                                   refine done_ (done_of HT_.out (by kernel_rfl)) ?_
                                                   try go_wp2
                                                   (try simp only [← hl6_2])
                                                   go_roundg k2
                                                   case measure => have := HK1.out; have := HK2.out; omega
                                                   case rel => exact ⟨(y356), (wrap64 (x8_2 + 1)), Rs, H', ⟨by have := HK1.out; have := HK2.out; omega⟩, ⟨by (try simp only [hl6_1]); (try simp only [hl6_2]); (with_reducible repeat (first | apply Kd.S_alloc | apply Kd.S_drewN | apply Kd.S_drew)); exact HQ56.out⟩, ⟨by repeat (first | (with_reducible first | exact HB.out | apply below_alloc | apply pw_below_drewN | apply below_drew1 | refine below_set ?_ GB54.out) | exact HB.out)⟩⟩
                                                 rw [if_neg c53] at H
                                                 exact absurd H (by simp)
                                               rw [if_neg c52] at H
                                               exact absurd H (by simp)
                                             rw [if_neg c50] at H
                                             exact absurd H (by simp)
                                           rw [if_neg c49] at H
                                           exact absurd H (by simp)
                                         rw [if_neg c48] at H
                                         exact absurd H (by simp)
                                       rw [if_neg c40] at H
                                       exact absurd H (by simp)
                                     rw [if_neg c39] at H
                                     exact absurd H (by simp)
                                   rw [if_neg c38] at H
                                   exact absurd H (by simp)
                                 rw [if_neg c37] at H
                                 exact absurd H (by simp)
                               rw [if_neg c36] at H
                               have c36b0 : decide (x8_2 ≤ a1) = false := decide_eq_false c36
                               clear c36
                               have H' := Aside0.mk H
                               clear H
                               go_wp2
                               (try simp only [← hl6_1, ← hl6_2])
                               go_roundg k2
                               case measure => have := HK1.out; have := HK2.out; omega
                               case rel => exact ⟨(x6_2), (wrap64 (x7_1 - 1)), Rs, H', ⟨by have := HK1.out; have := HK2.out; omega⟩, ⟨by (try simp only [hl6_1]); (try simp only [hl6_2]); (with_reducible repeat (first | apply Kd.S_alloc | apply Kd.S_drewN | apply Kd.S_drew)); exact HO_6.out⟩, ⟨Ub⟩⟩
                           rw [if_neg c32] at H
                           exact absurd H (by simp)
                         rw [if_neg c30] at H
                         exact absurd H (by simp)
                       rw [if_neg c29] at H
                       exact absurd H (by simp)
                     rw [if_neg c27] at H
                     exact absurd H (by simp)
                   rw [if_neg c26] at H
                   exact absurd H (by simp)
                 rw [if_neg c24] at H
                 have c24b0 : decide (0 ≤ x7_1) = false := decide_eq_false c24
                 clear c24
                 by_cases c58 : 0 < (x6_1.length : Int)
                 · rw [if_pos c58] at H
                   have c58b0 : decide (0 < (x6_1.length : Int)) = true := decide_eq_true c58
                   have c58b1 : decide (0 < x6_1.length) = true := decide_eq_true (by omega)
                   clear c58
                   by_cases c59 : 0 ≤ a1
                   · rw [if_pos c59] at H
                     have c59b0 : decide (0 ≤ a1) = true := decide_eq_true c59
                     clear c59
                     by_cases c60 : a1 < ((rd_L4 x6_1 0).length : Int)
                     · rw [if_pos c60] at H
                       have c60b0 : decide (a1 < ((rd_L4 x6_1 0).length : Int)) = true := decide_eq_true c60
                       clear c60
                       obtain ⟨bq61, hbq61⟩ : ∃ b_ : Bool, b_ = (rdOf false (rd_L4 x6_1 0) a1) := ⟨_, rfl⟩
                       replace H : (if (bq61 = true) then (impl_firstWay.l2 k1 l0 a1 x6_1 (([] : List Int)) 0) else (some (([] : List Int), false))) = some (r1, r2) := by rw [← hbq61] at H; exact H
                       have Nbq61 := Aside0.mk hbq61
                       clear hbq61
                       by_cases c62 : (bq61 = true)
                       · subst c62
                         have H1 : (impl_firstWay.l2 k1 l0 a1 x6_1 (([] : List Int)) 0) = some (r1, r2) := by rw [if_pos rfl] at H; exact H
                         clear H
                         have H := H1
                         clear H1
                         obtain ⟨y359, hy359⟩ : ∃ y_ : List Int, y_ = (([] : List Int)) := ⟨_, rfl⟩
                         replace H : (impl_firstWay.l2 k1 l0 a1 x6_1 y359 0) = some (r1, r2) := by first | (rw [hy359]; with_reducible exact H) | (have H2_ := (Option.bind_some _ _).symm.trans H; rw [hy359]; with_reducible exact H2_) | (have H2_ := (Option.bind_some _ _).symm.trans H; with_reducible exact H2_) | with_reducible exact H | (rw [hy359]; exact H) | exact H
                         have Ny359 := Aside0.mk hy359
                         clear hy359
                         have H' := Aside0.mk H
                         clear H
                         have p357 : 0 ≤ (0 : Int) := (by omega)
                         have q357 : 0 < (x6_1.length : Int) := Oa
                         obtain ⟨ad357, A357_0, c357_0, e357, hx357_0, hl357_0, hi357_0⟩ := at_L4 (Kd.S_reads' HO_6.out).2.2 0 p357 q357
                         obtain rfl : (⟨go13, 0, none⟩ : Addr) = ad357 := (by injection e357)
                         obtain ⟨ce357, hce357, hMe357, hcc357⟩ := Kd.S_get HO_6.out [] 0 p357 (by first | exact q357 | exact Oa | (have e_ := (Kd.S_reads' HO_6.out).1; omega))
                         obtain ⟨ve357_0, rfl, ge357_0⟩ := hMe357
                         have hv357_0 := hcc357 0 _ rfl
                         rw [Nat.add_zero, show ((Kd.slice 4 Kd.bool)).sz = 1 from rfl, Nat.mul_one] at hv357_0
                         replace hv357_0 := Option.some.inj (hv357_0.symm.trans hx357_0)
                         rw [hv357_0] at ge357_0
                         have HL357_0 := Aside0.mk (show Kd.R Kd.bool 4 _ _ _ _ (rd_L4 x6_1 0) from ge357_0)
                         clear hv357_0 ge357_0
                         have HX357_0 := Aside0.mk hx357_0
                         clear hcc357 hce357
                         (first | simp only [add_plain] at hx357_0 | simp only [add_at] at hx357_0 | simp only [Addr.add, Nat.zero_add] at hx357_0 | skip)
                         have qi357 : (0 < x6_1.length) = True := eq_true (by omega)
                         (try rw [show ((0 : Int)).toNat = 0 from rfl] at hx357_0)
                         (try rw [Addr.add_zero'] at hx357_0)
                         have HR357_0 := Aside0.mk hi357_0
                         have HC357_0 := Aside0.mk hl357_0
                         clear hi357_0 hl357_0
                         replace p357 := eq_true p357
                         replace q357 := eq_true q357
                         have p358 : 0 ≤ (a1 : Int) := Oa
                         have q358 : a1 < ((rd_L4 x6_1 0).length : Int) := Oa
                         obtain ⟨ad358, e358, hx358_0⟩ := Kd.at_bool (by repeat (first | (with_reducible exact HR357_0.out) | (with_reducible refine Kd.C_alloc ?_ _) | (with_reducible refine Kd.C_drewN ?_ _) | (with_reducible refine Kd.C_drew ?_) | exact HR357_0.out)) a1 p358 q358
                         (try rw [← Nbq61.out] at hx358_0)
                         cases e358
                         replace p358 := eq_true p358
                         replace q358 := eq_true q358
                         go_wp2_with (first | ((with_reducible refine gate_dst (N := 92) rfl ?_); refine Kd.R_lit (Kd.int .i64) _ 3 ?hg (N := 92) ?hd (xs := ([] : List Int)) (inner := []) (ok := fun _ => True) (okp := fun _ => True) ?hr ?hp (fun _ hk => hk) trivial (Below.refl _ _) (Nat.le_refl _) (by simp) ?_; (case hd => rfl); (case hg => rfl); (case hr => first | (go_simp; done) | (go_simp; rfl)); (case hp => exact (Reps.none _ _)); intro v360 w63 ho64 hb hg_ hnew_; clear hg_ hnew_; (first | rw [← Ny359.out] at ho64 | (simp only [Int.reduceToNat] at ho64; rw [← Ny359.out] at ho64)); replace HO_6 := Aside0.mk (Kd.S_below (Sm HO_6.out) hb); replace HL357_0 := Aside0.mk (Kd.R_below (Rm HL357_0.out) hb); have HO361 := Aside0.mk (Kd.R_lower ho64 (below_size Ub)); replace HR357_0 := Aside0.mk (Kd.C_below (by repeat (first | (with_reducible exact HR357_0.out) | (with_reducible refine Kd.C_alloc ?_ _) | (with_reducible refine Kd.C_drewN ?_ _) | (with_reducible refine Kd.C_drew ?_) | exact HR357_0.out)) hb); replace HX357_0 := Aside0.mk (pw_cell_below hb HX357_0.out); replace HB := Aside0.mk (below_step Ub hb); clear hb ho64))
                         go_loopg [1, 9, 10] k1 (fun kq v1 v9 v10 w' => ∃ (x1_2 : Int) (x9_2 : List Int) (x10_2 : Int), v1 = .int .i64 x1_2 ∧ v10 = .int .i64 x10_2 ∧ Aside0 (impl_firstWay.l2 kq l0 x1_2 x6_1 x9_2 x10_2 = some (r1, r2)) ∧ Aside0 (kq ≤ k1) ∧ Aside0 (Kd.S (Kd.slice 4 Kd.bool) 47 w' w.heap.size (fun _ => True) (.slice (some ⟨go13, 0, none⟩) x6_1.length co13) x6_1) ∧ Aside0 (Kd.R (Kd.int .i64) 3 w' w.heap.size (fun _ => True) v9 x9_2) ∧ Aside0 (Below w.heap.size w w'))
                         case atStart => exact ⟨(a1), (y359), (0), Rs, Rs, H', ⟨Nat.le_refl _⟩, ⟨by (try simp only [hl6_1]); (with_reducible repeat (first | apply Kd.S_alloc | apply Kd.S_drewN | apply Kd.S_drew)); exact HO_6.out⟩, ⟨by (try simp only [hl6_1]); (with_reducible repeat (first | apply Kd.R_alloc | apply Kd.R_drewN | apply Kd.R_drew)); exact HO361.out⟩, ⟨Ub⟩⟩
                         case round =>
                          clear H'
                          try clear c4
                          try clear c6
                          try clear c24
                          try clear c24b0
                          try clear c26
                          try clear c27
                          try clear c29
                          try clear c30
                          try clear c32
                          try clear c36
                          try clear c36b0
                          try clear c37
                          try clear c38
                          try clear c39
                          try clear c40
                          try clear c42
                          try clear c48
                          try clear c48b0
                          try clear c49
                          try clear c49b0
                          try clear c50
                          try clear c50b0
                          try clear c52
                          try clear c52b0
                          try clear c53
                          try clear c53b0
                          try clear p54
                          try clear q54
                          try clear c58
                          try clear c58b0
                          try clear c58b1
                          try clear c59
                          try clear c59b0
                          try clear c60
                          try clear c60b0
                          try clear c62
                          try clear hx345_0
                          try clear hx346_0
                          try clear hx347_0
                          try clear hx351_0
                          try clear hx352_0
                          try clear hx353_0
                          try clear hx357_0
                          try clear hx358_0
                          try clear hx54_0
                          try clear p345
                          try clear p346
                          try clear p347
                          try clear p351
                          try clear p352
                          try clear p353
                          try clear p357
                          try clear p358
                          try clear p54
                          try clear q345
                          try clear q346
                          try clear q347
                          try clear q351
                          try clear q352
                          try clear q353
                          try clear q357
                          try clear q358
                          try clear q54
                          obtain ⟨x1_2, x9_2, x10_2, rfl, rfl, HA, HK2, HO_6, HO_9, HB⟩ := hrel
                          cases gk with
                          | zero => exact absurd HA.out (by simp [impl_firstWay.l2])
                          | succ k2 =>
                           have H := HA.out
                           clear HA
                           simp only [impl_firstWay.l2] at H
                           by_cases c65 : x1_2 > 0
                           · rw [if_pos c65] at H
                             have c65b0 : decide (0 < x1_2) = true := decide_eq_true c65
                             clear c65
                             by_cases c66 : 0 ≤ x10_2
                             · rw [if_pos c66] at H
                               have c66b0 : decide (0 ≤ x10_2) = true := decide_eq_true c66
                               clear c66
                               by_cases c67 : x10_2 < (l0.length : Int)
                               · rw [if_pos c67] at H
                                 have c67b0 : decide (x10_2 < (l0.length : Int)) = true := decide_eq_true c67
                                 clear c67
                                 by_cases c68 : (rd l0 x10_2) ≤ x1_2
                                 · rw [if_pos c68] at H
                                   have c68b0 : decide ((rd l0 x10_2) ≤ x1_2) = true := decide_eq_true c68
                                   clear c68
                                   obtain ⟨ji69, hji69⟩ : ∃ j_ : Int, (wrap64 (x10_2 + 1)) = j_ := ⟨_, rfl⟩
                                   replace H : (if 0 ≤ (ji69) then (if (ji69) < (x6_1.length : Int) then (if 0 ≤ (wrap64 (x1_2 - (rd l0 x10_2))) then (if (wrap64 (x1_2 - (rd l0 x10_2))) < ((rd_L4 x6_1 (ji69)).length : Int) then (if rdOf false (rd_L4 x6_1 (ji69)) (wrap64 (x1_2 - (rd l0 x10_2))) = true then (if x9_2.length < 17592186044416 then (impl_firstWay.l2 k2 l0 (wrap64 (x1_2 - (rd l0 x10_2))) x6_1 (x9_2 ++ [x10_2]) ji69) else (none)) else (impl_firstWay.l2 k2 l0 x1_2 x6_1 x9_2 ji69)) else (none)) else (none)) else (none)) else (none)) = some (r1, r2) := by first | (rw [hji69] at H; exact H) | (simp only [hji69] at H ⊢; exact H)
                                   have hji69w : (IntKind.i64.wrap (x10_2 + 1)) = ji69 := (i64_w _).trans hji69
                                   by_cases c70 : 0 ≤ (ji69)
                                   · rw [if_pos c70] at H
                                     have c70b0 : decide (0 ≤ (ji69)) = true := decide_eq_true c70
                                     clear c70
                                     by_cases c71 : (ji69) < (x6_1.length : Int)
                                     · rw [if_pos c71] at H
                                       have c71b0 : decide ((ji69) < (x6_1.length : Int)) = true := decide_eq_true c71
                                       clear c71
                                       obtain ⟨ji72, hji72⟩ : ∃ j_ : Int, (wrap64 (x1_2 - (rd l0 x10_2))) = j_ := ⟨_, rfl⟩
                                       replace H : (if 0 ≤ (ji72) then (if (ji72) < ((rd_L4 x6_1 (ji69)).length : Int) then (if rdOf false (rd_L4 x6_1 (ji69)) (ji72) = true then (if x9_2.length < 17592186044416 then (impl_firstWay.l2 k2 l0 ji72 x6_1 (x9_2 ++ [x10_2]) ji69) else (none)) else (impl_firstWay.l2 k2 l0 x1_2 x6_1 x9_2 ji69)) else (none)) else (none)) = some (r1, r2) := by first | (rw [hji72] at H; exact H) | (simp only [hji72] at H ⊢; exact H)
                                       have hji72w : (IntKind.i64.wrap (x1_2 - (rd l0 x10_2))) = ji72 := (i64_w _).trans hji72
                                       by_cases c73 : 0 ≤ (ji72)
                                       · rw [if_pos c73] at H
                                         have c73b0 : decide (0 ≤ (ji72)) = true := decide_eq_true c73
                                         clear c73
                                         by_cases c74 : (ji72) < ((rd_L4 x6_1 (ji69)).length : Int)
                                         · rw [if_pos c74] at H
                                           have c74b0 : decide ((ji72) < ((rd_L4 x6_1 (ji69)).length : Int)) = true := decide_eq_true c74
                                           clear c74
                                           obtain ⟨bq75, hbq75⟩ : ∃ b_ : Bool, b_ = (rdOf false (rd_L4 x6_1 (ji69)) (ji72)) := ⟨_, rfl⟩
                                           replace H : (if bq75 = true then (if x9_2.length < 17592186044416 then (impl_firstWay.l2 k2 l0 ji72 x6_1 (x9_2 ++ [x10_2]) ji69) else (none)) else (impl_firstWay.l2 k2 l0 x1_2 x6_1 x9_2 ji69)) = some (r1, r2) := by rw [← hbq75] at H; exact H
                                           have Nbq75 := Aside0.mk hbq75
                                           clear hbq75
                                           by_cases c76 : bq75 = true
                                           · subst c76
                                             have H1 : (if x9_2.length < 17592186044416 then (impl_firstWay.l2 k2 l0 ji72 x6_1 (x9_2 ++ [x10_2]) ji69) else (none)) = some (r1, r2) := by rw [if_pos rfl] at H; exact H
                                             clear H
                                             have H := H1
                                             clear H1
                                             by_cases c77 : x9_2.length < 17592186044416
                                             · rw [if_pos c77] at H
                                               have LMc77 := Aside0.mk c77
                                               clear c77
                                               obtain ⟨y366, hy366⟩ : ∃ y_ : List Int, y_ = (x9_2 ++ [x10_2]) := ⟨_, rfl⟩
                                               replace H : (impl_firstWay.l2 k2 l0 ji72 x6_1 y366 ji69) = some (r1, r2) := by first | (rw [hy366]; with_reducible exact H) | (have H2_ := (Option.bind_some _ _).symm.trans H; rw [hy366]; with_reducible exact H2_) | (have H2_ := (Option.bind_some _ _).symm.trans H; with_reducible exact H2_) | with_reducible exact H | (rw [hy366]; exact H) | exact H
                                               have Ny366 := Aside0.mk hy366
                                               clear hy366
                                               have H' := Aside0.mk H
                                               clear H
                                               try go_wp2
                                               replace HO_6 := Aside0.mk (Kd.S_drew HO_6.out); replace HO_9 := Aside0.mk (Kd.R_drew HO_9.out); replace HB := Aside0.mk (below_drew1 HB.out)
                                               have p362 : 0 ≤ (x10_2 : Int) := Oa
                                               have q362 : x10_2 < (l0.length : Int) := Oa
                                               obtain ⟨ad362, e362, hx362_0⟩ := Kd.at_int HR0.out x10_2 p362 q362
                                               have hw362_0 := hx362_0
                                               cases e362
                                               replace hx362_0 := (HB.out.cell (World.block_lt_of_cell? w _ hx362_0)).trans hx362_0
                                               replace p362 := eq_true p362
                                               replace q362 := eq_true q362
                                               have p363 : 0 ≤ ((ji69) : Int) := Oa
                                               have q363 : (ji69) < (x6_1.length : Int) := Oa
                                               obtain ⟨ad363, A363_0, c363_0, e363, hx363_0, hl363_0, hi363_0⟩ := at_L4 (Kd.S_reads' HO_6.out).2.2 (ji69) p363 q363
                                               obtain rfl : (⟨go13, 0, none⟩ : Addr) = ad363 := (by injection e363)
                                               obtain ⟨ce363, hce363, hMe363, hcc363⟩ := Kd.S_get HO_6.out [] (ji69) p363 (by first | exact q363 | exact Oa | (have e_ := (Kd.S_reads' HO_6.out).1; omega))
                                               obtain ⟨ve363_0, rfl, ge363_0⟩ := hMe363
                                               have hv363_0 := hcc363 0 _ rfl
                                               rw [Nat.add_zero, show ((Kd.slice 4 Kd.bool)).sz = 1 from rfl, Nat.mul_one] at hv363_0
                                               replace hv363_0 := Option.some.inj (hv363_0.symm.trans hx363_0)
                                               rw [hv363_0] at ge363_0
                                               have HL363_0 := Aside0.mk (show Kd.R Kd.bool 4 _ _ _ _ (rd_L4 x6_1 (ji69)) from ge363_0)
                                               clear hv363_0 ge363_0
                                               have HX363_0 := Aside0.mk hx363_0
                                               clear hcc363 hce363
                                               (first | simp only [add_plain] at hx363_0 | simp only [add_at] at hx363_0 | simp only [Addr.add, Nat.zero_add] at hx363_0 | skip)
                                               have HR363_0 := Aside0.mk hi363_0
                                               have HC363_0 := Aside0.mk hl363_0
                                               clear hi363_0 hl363_0
                                               replace p363 := eq_true p363
                                               replace q363 := eq_true q363
                                               have p364 : 0 ≤ (x10_2 : Int) := Oa
                                               have q364 : x10_2 < (l0.length : Int) := Oa
                                               obtain ⟨ad364, e364, hx364_0⟩ := Kd.at_int HR0.out x10_2 p364 q364
                                               have hw364_0 := hx364_0
                                               obtain rfl : ad362 = ad364 := (by injection e364)
                                               replace hx364_0 := (HB.out.cell (World.block_lt_of_cell? w _ hx364_0)).trans hx364_0
                                               replace p364 := eq_true p364
                                               replace q364 := eq_true q364
                                               have p365 : 0 ≤ ((ji72) : Int) := Oa
                                               have q365 : (ji72) < ((rd_L4 x6_1 (ji69)).length : Int) := Oa
                                               obtain ⟨ad365, e365, hx365_0⟩ := Kd.at_bool (by repeat (first | (with_reducible exact HR363_0.out) | (with_reducible refine Kd.C_alloc ?_ _) | (with_reducible refine Kd.C_drewN ?_ _) | (with_reducible refine Kd.C_drew ?_) | exact HR363_0.out)) (ji72) p365 q365
                                               (try rw [← Nbq61.out] at hx365_0)
                                               (try rw [← Nbq75.out] at hx365_0)
                                               cases e365
                                               replace p365 := eq_true p365
                                               replace q365 := eq_true q365
                                               refine start_ (n := 21) (S := fun w' => w'.cell? (ad362.add (x10_2).toNat) = some (.int .i64 (rd l0 x10_2)) ∧ w'.cell? ⟨go13, ((ji69)).toNat, none⟩ = some (.slice (some ad365) (rd_L4 x6_1 (ji69)).length c363_0) ∧ w'.cell? (ad362.add (x10_2).toNat) = some (.int .i64 (rd l0 x10_2)) ∧ w'.cell? (ad365.add ((ji72)).toNat) = some (.bool true)) (ds := []) #[false, false, false, false, false, false, false, false, false, false, false, false, false, false, false, false, false, false, false, false, false] (by kernel_rfl) rfl rfl ⟨((HB.out.cell (World.block_lt_of_cell? w _ hw362_0)).trans hw362_0), hx363_0, ((HB.out.cell (World.block_lt_of_cell? w _ hw364_0)).trans hw364_0), hx365_0⟩ (fun hHeld => ?_); refine with_tabW impl_firstWay.tab20 impl_firstWay.bits20 (fun HT_ HW_ => ?_)
                                               generalize wr.drew = w78 at HO_6 HO_9 HB HL363_0 HR363_0 HX363_0 hx362_0 hx363_0 hx364_0 hx365_0 hHeld ⊢
                                               refine Pu 0 97 #[true, false, false, false, false, false, false, false, false, false, false, false, false, false, false, false, false, false, false, false, false] HT_.out ?_
                                               refine Pu 1 98 #[true, true, false, false, false, false, false, false, false, false, false, false, false, false, false, false, false, false, false, false, false] HT_.out ?_
                                               refine Pu 2 99 #[true, true, true, false, false, false, false, false, false, false, false, false, false, false, false, false, false, false, false, false, false] HT_.out ?_
                                               refine Pu 4 101 #[true, true, true, false, true, false, false, false, false, false, false, false, false, false, false, false, false, false, false, false, false] HT_.out ?_
                                               refine take_ (i := 3) (N := some 100) (v := ?_) (a' := ?_) #[true, true, true, true, true, false, false, false, false, false, false, false, false, false, false, false, false, false, false, false, false] rfl rfl (take_ofW HT_.out HW_.out (by kernel_rfl)) (fun _ _ _ h => h) (Or.inl ⟨by rfl, ?_⟩) hHeld ?_ ?_
                                               rotate_left
                                               · rintro w' ⟨s0, s1, s2, s3⟩
                                                 go_simp
                                                 with_reducible rfl
                                               rotate_left
                                               · simp only [Act.put, List.setIfInBounds_toArray, List.set_cons_zero, List.set_cons_succ, i64_w, i32_w]
                                                 rfl
                                               refine Pu 5 102 #[true, true, true, true, true, true, false, false, false, false, false, false, false, false, false, false, false, false, false, false, false] HT_.out ?_
                                               refine Pu 6 103 #[true, true, true, true, true, true, true, false, false, false, false, false, false, false, false, false, false, false, false, false, false] HT_.out ?_
                                               refine Pu 7 104 #[true, true, true, true, true, true, true, true, false, false, false, false, false, false, false, false, false, false, false, false, false] HT_.out ?_
                                               refine Pu 8 105 #[true, true, true, true, true, true, true, true, true, false, false, false, false, false, false, false, false, false, false, false, false] HT_.out ?_
                                               refine Pu 9 106 #[true, true, true, true, true, true, true, true, true, true, false, false, false, false, false, false, false, false, false, false, false] HT_.out ?_
                                               refine Pu 10 107 #[true, true, true, true, true, true, true, true, true, true, true, false, false, false, false, false, false, false, false, false, false] HT_.out ?_
                                               refine Pu 12 109 #[true, true, true, true, true, true, true, true, true, true, true, false, true, false, false, false, false, false, false, false, false] HT_.out ?_
                                               refine Pu 13 110 #[true, true, true, true, true, true, true, true, true, true, true, false, true, true, false, false, false, false, false, false, false] HT_.out ?_
                                               refine Pu 14 111 #[true, true, true, true, true, true, true, true, true, true, true, false, true, true, true, false, false, false, false, false, false] HT_.out ?_
                                               refine Pu 15 112 #[true, true, true, true, true, true, true, true, true, true, true, false, true, true, true, true, false, false, false, false, false] HT_.out ?_
                                               refine take_ (i := 11) (N := some 108) (v := ?_) (a' := ?_) #[true, true, true, true, true, true, true, true, true, true, true, true, true, true, true, true, false, false, false, false, false] rfl rfl (take_ofW HT_.out HW_.out (by kernel_rfl)) (fun _ _ _ h => h) (Or.inl ⟨by rfl, ?_⟩) hHeld ?_ ?_
                                               rotate_left
                                               · rintro w' ⟨s0, s1, s2, s3⟩
                                                 go_simp
                                                 with_reducible rfl
                                               rotate_left
                                               · simp only [Act.put, List.setIfInBounds_toArray, List.set_cons_zero, List.set_cons_succ, i64_w, i32_w]
                                                 rfl
                                               refine take_ (i := 16) (N := some 113) (v := ?_) (a' := ?_) #[true, true, true, true, true, true, true, true, true, true, true, true, true, true, true, true, true, false, false, false, false] rfl rfl (take_ofW HT_.out HW_.out (by kernel_rfl)) (fun _ _ _ h => h) (Or.inl ⟨by rfl, ?_⟩) hHeld ?_ ?_
                                               rotate_left
                                               · rintro w' ⟨s0, s1, s2, s3⟩
                                                 go_simp
                                                 with_reducible rfl
                                               rotate_left
                                               · simp only [Act.put, List.setIfInBounds_toArray, List.set_cons_zero, List.set_cons_succ, i64_w, i32_w]
                                                 rfl
                                               refine Pu 17 114 #[true, true, true, true, true, true, true, true, true, true, true, true, true, true, true, true, true, true, false, false, false] HT_.out ?_
                                               refine Pu 18 115 #[true, true, true, true, true, true, true, true, true, true, true, true, true, true, true, true, true, true, true, false, false] HT_.out ?_
                                               refine take_ (i := 19) (N := some 116) (v := ?_) (a' := ?_) #[true, true, true, true, true, true, true, true, true, true, true, true, true, true, true, true, true, true, true, true, false] rfl rfl (take_ofW HT_.out HW_.out (by kernel_rfl)) (fun _ _ _ h => h) (Or.inl ⟨by rfl, ?_⟩) hHeld ?_ ?_
                                               rotate_left
                                               · rintro w' ⟨s0, s1, s2, s3⟩
                                                 go_simp
                                                 with_reducible rfl
                                               rotate_left
                                               · simp only [Act.put, List.setIfInBounds_toArray, List.set_cons_zero, List.set_cons_succ, i64_w, i32_w]
                                                 rfl
                                               refine Pu 20 117 #[true, true, true, true, true, true, true, true, true, true, true, true, true, true, true, true, true, true, true, true, true] HT_.out ?_
                                               refine done_ (done_of HT_.out (by kernel_rfl)) ?_
                                               try go_wp2_with (first | ((with_reducible refine gate_builtin (b := .append) (xs := #[.tmp 118, .tmp 120]) rfl ?_); at_builtin; refine Kd.R_append (Kd.int .i64) (w0 := w) w.heap.size rfl (.tmp 118) (.tmp 120) 24 3 (.int .i64 0) 8 rfl Try.underlying24 info3 rfl (by decide) (by omega) u9 x9_2 x10_2 [.int .i64 x10_2] (fun _ => True) (fun _ => False) rfl rfl ?aP (fun _ hk => hk.elim) ?aF ?aO ?aB ?aS ?aL ?_; (case aP => exact rfl); (case aB => exact Ub); (case aF => exact (fun _ _ => trivial)); (case aO => exact (Rm HO_9.out)); (case aS => exact (below_size Ub)); (case aL => have := LMc77.out; omega); intro v367 w79 ho hb hg hat; rw [← Ny366.out] at ho; replace HO_6 := Aside0.mk (Kd.S_over' (Sm HO_6.out) (Kd.R_typed (Rm HO_9.out)) (by decide) hg); replace HL363_0 := Aside0.mk (Kd.R_over' (Rm HL363_0.out) (Kd.R_typed (Rm HO_9.out)) (by decide) hg); replace HB := Aside0.mk (hb); have HO368 := Aside0.mk (ho); clear HO_9; clear ho hb hg hat; have p369 : 0 ≤ (x10_2 : Int) := Oa; have q369 : x10_2 < (l0.length : Int) := Oa; obtain ⟨ad369, e369, hx369_0⟩ := Kd.at_int HR0.out x10_2 p369 q369; obtain rfl : ad362 = ad369 := (by injection e369); replace hx369_0 := (HB.out.cell (World.block_lt_of_cell? w _ hx369_0)).trans hx369_0; replace p369 := eq_true p369; replace q369 := eq_true q369))
                                               go_roundg k2
                                               case measure => have := HK1.out; have := HK2.out; omega
                                               case rel => exact ⟨(ji72), (y366), (ji69), (by first | rfl | (simp; done) | (simp only [← hji72] <;> (first | rfl | simp)) | (simp [*]; done)), (by first | rfl | (simp; done) | (simp only [← hji69] <;> (first | rfl | simp)) | (simp [*]; done)), H', ⟨by have := HK1.out; have := HK2.out; omega⟩, ⟨by (try simp only [hl6_1]); (with_reducible repeat (first | apply Kd.S_alloc | apply Kd.S_drewN | apply Kd.S_drew)); exact HO_6.out⟩, ⟨by (try simp only [hl6_1]); (with_reducible repeat (first | apply Kd.R_alloc | apply Kd.R_drewN | apply Kd.R_drew)); exact HO368.out⟩, ⟨Ub⟩⟩
                                             rw [if_neg c77] at H
                                             exact absurd H (by simp)
                                           replace c76 := Bool.eq_false_iff.mpr c76
                                           subst c76
                                           have H1 : (impl_firstWay.l2 k2 l0 x1_2 x6_1 x9_2 ji69) = some (r1, r2) := by rw [if_neg (show ¬ (false = true) by decide)] at H; exact H
                                           clear H
                                           have H := H1
                                           clear H1
                                           have H' := Aside0.mk H
                                           clear H
                                           try go_wp2
                                           replace HO_6 := Aside0.mk (Kd.S_drew HO_6.out); replace HO_9 := Aside0.mk (Kd.R_drew HO_9.out); replace HB := Aside0.mk (below_drew1 HB.out)
                                           have p362 : 0 ≤ (x10_2 : Int) := Oa
                                           have q362 : x10_2 < (l0.length : Int) := Oa
                                           obtain ⟨ad362, e362, hx362_0⟩ := Kd.at_int HR0.out x10_2 p362 q362
                                           have hw362_0 := hx362_0
                                           cases e362
                                           replace hx362_0 := (HB.out.cell (World.block_lt_of_cell? w _ hx362_0)).trans hx362_0
                                           replace p362 := eq_true p362
                                           replace q362 := eq_true q362
                                           have p363 : 0 ≤ ((ji69) : Int) := Oa
                                           have q363 : (ji69) < (x6_1.length : Int) := Oa
                                           obtain ⟨ad363, A363_0, c363_0, e363, hx363_0, hl363_0, hi363_0⟩ := at_L4 (Kd.S_reads' HO_6.out).2.2 (ji69) p363 q363
                                           obtain rfl : (⟨go13, 0, none⟩ : Addr) = ad363 := (by injection e363)
                                           obtain ⟨ce363, hce363, hMe363, hcc363⟩ := Kd.S_get HO_6.out [] (ji69) p363 (by first | exact q363 | exact Oa | (have e_ := (Kd.S_reads' HO_6.out).1; omega))
                                           obtain ⟨ve363_0, rfl, ge363_0⟩ := hMe363
                                           have hv363_0 := hcc363 0 _ rfl
                                           rw [Nat.add_zero, show ((Kd.slice 4 Kd.bool)).sz = 1 from rfl, Nat.mul_one] at hv363_0
                                           replace hv363_0 := Option.some.inj (hv363_0.symm.trans hx363_0)
                                           rw [hv363_0] at ge363_0
                                           have HL363_0 := Aside0.mk (show Kd.R Kd.bool 4 _ _ _ _ (rd_L4 x6_1 (ji69)) from ge363_0)
                                           clear hv363_0 ge363_0
                                           have HX363_0 := Aside0.mk hx363_0
                                           clear hcc363 hce363
                                           (first | simp only [add_plain] at hx363_0 | simp only [add_at] at hx363_0 | simp only [Addr.add, Nat.zero_add] at hx363_0 | skip)
                                           have HR363_0 := Aside0.mk hi363_0
                                           have HC363_0 := Aside0.mk hl363_0
                                           clear hi363_0 hl363_0
                                           replace p363 := eq_true p363
                                           replace q363 := eq_true q363
                                           have p364 : 0 ≤ (x10_2 : Int) := Oa
                                           have q364 : x10_2 < (l0.length : Int) := Oa
                                           obtain ⟨ad364, e364, hx364_0⟩ := Kd.at_int HR0.out x10_2 p364 q364
                                           have hw364_0 := hx364_0
                                           obtain rfl : ad362 = ad364 := (by injection e364)
                                           replace hx364_0 := (HB.out.cell (World.block_lt_of_cell? w _ hx364_0)).trans hx364_0
                                           replace p364 := eq_true p364
                                           replace q364 := eq_true q364
                                           have p365 : 0 ≤ ((ji72) : Int) := Oa
                                           have q365 : (ji72) < ((rd_L4 x6_1 (ji69)).length : Int) := Oa
                                           obtain ⟨ad365, e365, hx365_0⟩ := Kd.at_bool (by repeat (first | (with_reducible exact HR363_0.out) | (with_reducible refine Kd.C_alloc ?_ _) | (with_reducible refine Kd.C_drewN ?_ _) | (with_reducible refine Kd.C_drew ?_) | exact HR363_0.out)) (ji72) p365 q365
                                           (try rw [← Nbq61.out] at hx365_0)
                                           (try rw [← Nbq75.out] at hx365_0)
                                           cases e365
                                           replace p365 := eq_true p365
                                           replace q365 := eq_true q365
                                           refine start_ (n := 21) (S := fun w' => w'.cell? (ad362.add (x10_2).toNat) = some (.int .i64 (rd l0 x10_2)) ∧ w'.cell? ⟨go13, ((ji69)).toNat, none⟩ = some (.slice (some ad365) (rd_L4 x6_1 (ji69)).length c363_0) ∧ w'.cell? (ad362.add (x10_2).toNat) = some (.int .i64 (rd l0 x10_2)) ∧ w'.cell? (ad365.add ((ji72)).toNat) = some (.bool false)) (ds := []) #[false, false, false, false, false, false, false, false, false, false, false, false, false, false, false, false, false, false, false, false, false] (by kernel_rfl) rfl rfl ⟨((HB.out.cell (World.block_lt_of_cell? w _ hw362_0)).trans hw362_0), hx363_0, ((HB.out.cell (World.block_lt_of_cell? w _ hw364_0)).trans hw364_0), hx365_0⟩ (fun hHeld => ?_); refine with_tabW impl_firstWay.tab20 impl_firstWay.bits20 (fun HT_ HW_ => ?_)
                                           generalize wr.drew = w80 at HO_6 HO_9 HB HL363_0 HR363_0 HX363_0 hx362_0 hx363_0 hx364_0 hx365_0 hHeld ⊢
                                           refine Pu 0 97 #[true, false, false, false, false, false, false, false, false, false, false, false, false, false, false, false, false, false, false, false, false] HT_.out ?_
                                           refine Pu 1 98 #[true, true, false, false, false, false, false, false, false, false, false, false, false, false, false, false, false, false, false, false, false] HT_.out ?_
                                           refine Pu 2 99 #[true, true, true, false, false, false, false, false, false, false, false, false, false, false, false, false, false, false, false, false, false] HT_.out ?_
                                           refine Pu 4 101 #[true, true, true, false, true, false, false, false, false, false, false, false, false, false, false, false, false, false, false, false, false] HT_.out ?_
                                           refine take_ (i := 3) (N := some 100) (v := ?_) (a' := ?_) #[true, true, true, true, true, false, false, false, false, false, false, false, false, false, false, false, false, false, false, false, false] rfl rfl (take_ofW HT_.out HW_.out (by kernel_rfl)) (fun _ _ _ h => h) (Or.inl ⟨by rfl, ?_⟩) hHeld ?_ ?_
                                           rotate_left
                                           · rintro w' ⟨s0, s1, s2, s3⟩
                                             go_simp
                                             with_reducible rfl
                                           rotate_left
                                           · simp only [Act.put, List.setIfInBounds_toArray, List.set_cons_zero, List.set_cons_succ, i64_w, i32_w]
                                             rfl
                                           refine Pu 5 102 #[true, true, true, true, true, true, false, false, false, false, false, false, false, false, false, false, false, false, false, false, false] HT_.out ?_
                                           refine Pu 6 103 #[true, true, true, true, true, true, true, false, false, false, false, false, false, false, false, false, false, false, false, false, false] HT_.out ?_
                                           refine Pu 7 104 #[true, true, true, true, true, true, true, true, false, false, false, false, false, false, false, false, false, false, false, false, false] HT_.out ?_
                                           refine Pu 8 105 #[true, true, true, true, true, true, true, true, true, false, false, false, false, false, false, false, false, false, false, false, false] HT_.out ?_
                                           refine Pu 9 106 #[true, true, true, true, true, true, true, true, true, true, false, false, false, false, false, false, false, false, false, false, false] HT_.out ?_
                                           refine Pu 10 107 #[true, true, true, true, true, true, true, true, true, true, true, false, false, false, false, false, false, false, false, false, false] HT_.out ?_
                                           refine Pu 12 109 #[true, true, true, true, true, true, true, true, true, true, true, false, true, false, false, false, false, false, false, false, false] HT_.out ?_
                                           refine Pu 13 110 #[true, true, true, true, true, true, true, true, true, true, true, false, true, true, false, false, false, false, false, false, false] HT_.out ?_
                                           refine Pu 14 111 #[true, true, true, true, true, true, true, true, true, true, true, false, true, true, true, false, false, false, false, false, false] HT_.out ?_
                                           refine Pu 15 112 #[true, true, true, true, true, true, true, true, true, true, true, false, true, true, true, true, false, false, false, false, false] HT_.out ?_
                                           refine take_ (i := 11) (N := some 108) (v := ?_) (a' := ?_) #[true, true, true, true, true, true, true, true, true, true, true, true, true, true, true, true, false, false, false, false, false] rfl rfl (take_ofW HT_.out HW_.out (by kernel_rfl)) (fun _ _ _ h => h) (Or.inl ⟨by rfl, ?_⟩) hHeld ?_ ?_
                                           rotate_left
                                           · rintro w' ⟨s0, s1, s2, s3⟩
                                             go_simp
                                             with_reducible rfl
                                           rotate_left
                                           · simp only [Act.put, List.setIfInBounds_toArray, List.set_cons_zero, List.set_cons_succ, i64_w, i32_w]
                                             rfl
                                           refine take_ (i := 16) (N := some 113) (v := ?_) (a' := ?_) #[true, true, true, true, true, true, true, true, true, true, true, true, true, true, true, true, true, false, false, false, false] rfl rfl (take_ofW HT_.out HW_.out (by kernel_rfl)) (fun _ _ _ h => h) (Or.inl ⟨by rfl, ?_⟩) hHeld ?_ ?_
                                           rotate_left
                                           · rintro w' ⟨s0, s1, s2, s3⟩
                                             go_simp
                                             with_reducible rfl
                                           rotate_left
                                           · simp only [Act.put, List.setIfInBounds_toArray, List.set_cons_zero, List.set_cons_succ, i64_w, i32_w]
                                             rfl
                                           refine Pu 17 114 #[true, true, true, true, true, true, true, true, true, true, true, true, true, true, true, true, true, true, false, false, false] HT_.out ?_
                                           refine Pu 18 115 #[true, true, true, true, true, true, true, true, true, true, true, true, true, true, true, true, true, true, true, false, false] HT_.out ?_
                                           refine take_ (i := 19) (N := some 116) (v := ?_) (a' := ?_) #[true, true, true, true, true, true, true, true, true, true, true, true, true, true, true, true, true, true, true, true, false] rfl rfl (take_ofW HT_.out HW_.out (by kernel_rfl)) (fun _ _ _ h => h) (Or.inl ⟨by rfl, ?_⟩) hHeld ?_ ?_
                                           rotate_left
                                           · rintro w' ⟨s0, s1, s2, s3⟩
                                             go_simp
                                             with_reducible rfl
                                           rotate_left
                                           · simp only [Act.put, List.setIfInBounds_toArray, List.set_cons_zero, List.set_cons_succ, i64_w, i32_w]
                                             rfl
                                           refine Pu 20 117 #[true, true, true, true, true, true, true, true, true, true, true, true, true, true, true, true, true, true, true, true, true] HT_.out ?_
                                           refine done_ (done_of HT_.out (by kernel_rfl)) ?_
                                           try go_wp2
                                           go_roundg k2
                                           case measure => have := HK1.out; have := HK2.out; omega
                                           case rel => exact ⟨(x1_2), (x9_2), (ji69), Rs, (by first | rfl | (simp; done) | (simp only [← hji69] <;> (first | rfl | simp)) | (simp [*]; done)), H', ⟨by have := HK1.out; have := HK2.out; omega⟩, ⟨by (try simp only [hl6_1]); (with_reducible repeat (first | apply Kd.S_alloc | apply Kd.S_drewN | apply Kd.S_drew)); exact HO_6.out⟩, ⟨by (try simp only [hl6_1]); (with_reducible repeat (first | apply Kd.R_alloc | apply Kd.R_drewN | apply Kd.R_drew)); exact HO_9.out⟩, ⟨Ub⟩⟩
                                         rw [if_neg c74] at H
                                         exact absurd H (by simp)
                                       rw [if_neg c73] at H
                                       exact absurd H (by simp)
                                     rw [if_neg c71] at H
                                     exact absurd H (by simp)
                                   rw [if_neg c70] at H
                                   exact absurd H (by simp)
                                 rw [if_neg c68] at H
                                 have c68b0 : decide ((rd l0 x10_2) ≤ x1_2) = false := decide_eq_false c68
                                 clear c68
                                 have H' := Aside0.mk H
                                 clear H
                                 try go_wp2
                                 replace HO_6 := Aside0.mk (Kd.S_drew HO_6.out); replace HO_9 := Aside0.mk (Kd.R_drew HO_9.out); replace HB := Aside0.mk (below_drew1 HB.out)
                                 have p362 : 0 ≤ (x10_2 : Int) := Oa
                                 have q362 : x10_2 < (l0.length : Int) := Oa
                                 obtain ⟨ad362, e362, hx362_0⟩ := Kd.at_int HR0.out x10_2 p362 q362
                                 have hw362_0 := hx362_0
                                 cases e362
                                 replace hx362_0 := (HB.out.cell (World.block_lt_of_cell? w _ hx362_0)).trans hx362_0
                                 replace p362 := eq_true p362
                                 replace q362 := eq_true q362
                                 refine start_ (n := 21) (S := fun w' => w'.cell? (ad362.add (x10_2).toNat) = some (.int .i64 (rd l0 x10_2))) (ds := []) #[false, false, false, false, false, false, false, false, false, false, false, false, false, false, false, false, false, false, false, false, false] (by kernel_rfl) rfl rfl (((HB.out.cell (World.block_lt_of_cell? w _ hw362_0)).trans hw362_0)) (fun hHeld => ?_); refine with_tabW impl_firstWay.tab20 impl_firstWay.bits20 (fun HT_ HW_ => ?_)
                                 generalize wr.drew = w81 at HO_6 HO_9 HB hx362_0 hHeld ⊢
                                 refine Pu 0 97 #[true, false, false, false, false, false, false, false, false, false, false, false, false, false, false, false, false, false, false, false, false] HT_.out ?_
                                 refine Pu 1 98 #[true, true, false, false, false, false, false, false, false, false, false, false, false, false, false, false, false, false, false, false, false] HT_.out ?_
                                 refine Pu 2 99 #[true, true, true, false, false, false, false, false, false, false, false, false, false, false, false, false, false, false, false, false, false] HT_.out ?_
                                 refine Pu 4 101 #[true, true, true, false, true, false, false, false, false, false, false, false, false, false, false, false, false, false, false, false, false] HT_.out ?_
                                 refine take_ (i := 3) (N := some 100) (v := ?_) (a' := ?_) #[true, true, true, true, true, false, false, false, false, false, false, false, false, false, false, false, false, false, false, false, false] rfl rfl (take_ofW HT_.out HW_.out (by kernel_rfl)) (fun _ _ _ h => h) (Or.inl ⟨by rfl, ?_⟩) hHeld ?_ ?_
                                 rotate_left
                                 · intro w' s0
                                   go_simp
                                   with_reducible rfl
                                 rotate_left
                                 · simp only [Act.put, List.setIfInBounds_toArray, List.set_cons_zero, List.set_cons_succ, i64_w, i32_w]
                                   rfl
                                 refine Pu 5 102 #[true, true, true, true, true, true, false, false, false, false, false, false, false, false, false, false, false, false, false, false, false] HT_.out ?_
                                 refine Pu 6 103 #[true, true, true, true, true, true, true, false, false, false, false, false, false, false, false, false, false, false, false, false, false] HT_.out ?_
                                 refine pure_ (i := 7) (N := some 104) (v := undef) (a' := ?_) #[true, true, true, true, true, true, true, true, false, false, false, false, false, false, false, false, false, false, false, false, false] rfl rfl (any_of HT_.out (by kernel_rfl)) (fun _ _ _ h => h) (Or.inr ⟨by rfl, rfl⟩) ?_ ?_
                                 rotate_left
                                 · simp only [Act.put, List.setIfInBounds_toArray, List.set_cons_zero, List.set_cons_succ, i64_w, i32_w]
                                   rfl
                                 refine pure_ (i := 8) (N := some 105) (v := undef) (a' := ?_) #[true, true, true, true, true, true, true, true, true, false, false, false, false, false, false, false, false, false, false, false, false] rfl rfl (any_of HT_.out (by kernel_rfl)) (fun _ _ _ h => h) (Or.inr ⟨by rfl, rfl⟩) ?_ ?_
                                 rotate_left
                                 · simp only [Act.put, List.setIfInBounds_toArray, List.set_cons_zero, List.set_cons_succ, i64_w, i32_w]
                                   rfl
                                 refine pure_ (i := 9) (N := some 106) (v := undef) (a' := ?_) #[true, true, true, true, true, true, true, true, true, true, false, false, false, false, false, false, false, false, false, false, false] rfl rfl (any_of HT_.out (by kernel_rfl)) (fun _ _ _ h => h) (Or.inr ⟨by rfl, rfl⟩) ?_ ?_
                                 rotate_left
                                 · simp only [Act.put, List.setIfInBounds_toArray, List.set_cons_zero, List.set_cons_succ, i64_w, i32_w]
                                   rfl
                                 refine pure_ (i := 10) (N := some 107) (v := undef) (a' := ?_) #[true, true, true, true, true, true, true, true, true, true, true, false, false, false, false, false, false, false, false, false, false] rfl rfl (any_of HT_.out (by kernel_rfl)) (fun _ _ _ h => h) (Or.inr ⟨by rfl, rfl⟩) ?_ ?_
                                 rotate_left
                                 · simp only [Act.put, List.setIfInBounds_toArray, List.set_cons_zero, List.set_cons_succ, i64_w, i32_w]
                                   rfl
                                 refine pure_ (i := 11) (N := some 108) (v := undef) (a' := ?_) #[true, true, true, true, true, true, true, true, true, true, true, true, false, false, false, false, false, false, false, false, false] rfl rfl (any_of HT_.out (by kernel_rfl)) (fun _ _ _ h => h) (Or.inr ⟨by rfl, rfl⟩) ?_ ?_
                                 rotate_left
                                 · simp only [Act.put, List.setIfInBounds_toArray, List.set_cons_zero, List.set_cons_succ, i64_w, i32_w]
                                   rfl
                                 refine pure_ (i := 12) (N := some 109) (v := undef) (a' := ?_) #[true, true, true, true, true, true, true, true, true, true, true, true, true, false, false, false, false, false, false, false, false] rfl rfl (any_of HT_.out (by kernel_rfl)) (fun _ _ _ h => h) (Or.inr ⟨by rfl, rfl⟩) ?_ ?_
                                 rotate_left
                                 · simp only [Act.put, List.setIfInBounds_toArray, List.set_cons_zero, List.set_cons_succ, i64_w, i32_w]
                                   rfl
                                 refine pure_ (i := 13) (N := some 110) (v := undef) (a' := ?_) #[true, true, true, true, true, true, true, true, true, true, true, true, true, true, false, false, false, false, false, false, false] rfl rfl (any_of HT_.out (by kernel_rfl)) (fun _ _ _ h => h) (Or.inr ⟨by rfl, rfl⟩) ?_ ?_
                                 rotate_left
                                 · simp only [Act.put, List.setIfInBounds_toArray, List.set_cons_zero, List.set_cons_succ, i64_w, i32_w]
                                   rfl
                                 refine pure_ (i := 14) (N := some 111) (v := undef) (a' := ?_) #[true, true, true, true, true, true, true, true, true, true, true, true, true, true, true, false, false, false, false, false, false] rfl rfl (any_of HT_.out (by kernel_rfl)) (fun _ _ _ h => h) (Or.inr ⟨by rfl, rfl⟩) ?_ ?_
                                 rotate_left
                                 · simp only [Act.put, List.setIfInBounds_toArray, List.set_cons_zero, List.set_cons_succ, i64_w, i32_w]
                                   rfl
                                 refine pure_ (i := 15) (N := some 112) (v := undef) (a' := ?_) #[true, true, true, true, true, true, true, true, true, true, true, true, true, true, true, true, false, false, false, false, false] rfl rfl (any_of HT_.out (by kernel_rfl)) (fun _ _ _ h => h) (Or.inr ⟨by rfl, rfl⟩) ?_ ?_
                                 rotate_left
                                 · simp only [Act.put, List.setIfInBounds_toArray, List.set_cons_zero, List.set_cons_succ, i64_w, i32_w]
                                   rfl
                                 refine pure_ (i := 16) (N := some 113) (v := undef) (a' := ?_) #[true, true, true, true, true, true, true, true, true, true, true, true, true, true, true, true, true, false, false, false, false] rfl rfl (any_of HT_.out (by kernel_rfl)) (fun _ _ _ h => h) (Or.inr ⟨by rfl, rfl⟩) ?_ ?_
                                 rotate_left
                                 · simp only [Act.put, List.setIfInBounds_toArray, List.set_cons_zero, List.set_cons_succ, i64_w, i32_w]
                                   rfl
                                 refine pure_ (i := 17) (N := some 114) (v := undef) (a' := ?_) #[true, true, true, true, true, true, true, true, true, true, true, true, true, true, true, true, true, true, false, false, false] rfl rfl (any_of HT_.out (by kernel_rfl)) (fun _ _ _ h => h) (Or.inr ⟨by rfl, rfl⟩) ?_ ?_
                                 rotate_left
                                 · simp only [Act.put, List.setIfInBounds_toArray, List.set_cons_zero, List.set_cons_succ, i64_w, i32_w]
                                   rfl
                                 refine pure_ (i := 18) (N := some 115) (v := undef) (a' := ?_) #[true, true, true, true, true, true, true, true, true, true, true, true, true, true, true, true, true, true, true, false, false] rfl rfl (any_of HT_.out (by kernel_rfl)) (fun _ _ _ h => h) (Or.inr ⟨by rfl, rfl⟩) ?_ ?_
                                 rotate_left
                                 · simp only [Act.put, List.setIfInBounds_toArray, List.set_cons_zero, List.set_cons_succ, i64_w, i32_w]
                                   rfl
                                 refine pure_ (i := 19) (N := some 116) (v := undef) (a' := ?_) #[true, true, true, true, true, true, true, true, true, true, true, true, true, true, true, true, true, true, true, true, false] rfl rfl (any_of HT_.out (by kernel_rfl)) (fun _ _ _ h => h) (Or.inr ⟨by rfl, rfl⟩) ?_ ?_
                                 rotate_left
                                 · simp only [Act.put, List.setIfInBounds_toArray, List.set_cons_zero, List.set_cons_succ, i64_w, i32_w]
                                   rfl
                                 refine Pu 20 117 #[true, true, true, true, true, true, true, true, true, true, true, true, true, true, true, true, true, true, true, true, true] HT_.out ?_
                                 refine done_ (done_of HT_.out (by kernel_rfl)) ?_
                                 try go_wp2
                                 go_roundg k2
                                 case measure => have := HK1.out; have := HK2.out; omega
                                 case rel => exact ⟨(x1_2), (x9_2), (wrap64 (x10_2 + 1)), Rs, Rs, H', ⟨by have := HK1.out; have := HK2.out; omega⟩, ⟨by (try simp only [hl6_1]); (with_reducible repeat (first | apply Kd.S_alloc | apply Kd.S_drewN | apply Kd.S_drew)); exact HO_6.out⟩, ⟨by (try simp only [hl6_1]); (with_reducible repeat (first | apply Kd.R_alloc | apply Kd.R_drewN | apply Kd.R_drew)); exact HO_9.out⟩, ⟨Ub⟩⟩
                               rw [if_neg c67] at H
                               exact absurd H (by simp)
                             rw [if_neg c66] at H
                             exact absurd H (by simp)
                           rw [if_neg c65] at H
                           have c65b0 : decide (0 < x1_2) = false := decide_eq_false c65
                           clear c65
                           simp only [Option.some.injEq, Prod.mk.injEq] at H
                           obtain ⟨rfl, rfl⟩ := H
                           go_wp2
                           go_ret2
                           exact ⟨_, by first | rfl | (simp [errW_none, errW_some] <;> rfl) | (simp only [← hji5, ← hji8]; first | rfl | (simp [errW_none, errW_some] <;> rfl)) | (simp [*, errW_none, errW_some] <;> rfl), Rm HO_9.out, Ub⟩
                       replace c62 := Bool.eq_false_iff.mpr c62
                       subst c62
                       have H1 : (some (([] : List Int), false)) = some (r1, r2) := by rw [if_neg (show ¬ (false = true) by decide)] at H; exact H
                       clear H
                       have H := H1
                       clear H1
                       simp only [Option.some.injEq, Prod.mk.injEq] at H
                       obtain ⟨rfl, rfl⟩ := H
                       have p357 : 0 ≤ (0 : Int) := (by omega)
                       have q357 : 0 < (x6_1.length : Int) := Oa
                       obtain ⟨ad357, A357_0, c357_0, e357, hx357_0, hl357_0, hi357_0⟩ := at_L4 (Kd.S_reads' HO_6.out).2.2 0 p357 q357
                       obtain rfl : (⟨go13, 0, none⟩ : Addr) = ad357 := (by injection e357)
                       obtain ⟨ce357, hce357, hMe357, hcc357⟩ := Kd.S_get HO_6.out [] 0 p357 (by first | exact q357 | exact Oa | (have e_ := (Kd.S_reads' HO_6.out).1; omega))
                       obtain ⟨ve357_0, rfl, ge357_0⟩ := hMe357
                       have hv357_0 := hcc357 0 _ rfl
                       rw [Nat.add_zero, show ((Kd.slice 4 Kd.bool)).sz = 1 from rfl, Nat.mul_one] at hv357_0
                       replace hv357_0 := Option.some.inj (hv357_0.symm.trans hx357_0)
                       rw [hv357_0] at ge357_0
                       have HL357_0 := Aside0.mk (show Kd.R Kd.bool 4 _ _ _ _ (rd_L4 x6_1 0) from ge357_0)
                       clear hv357_0 ge357_0
                       have HX357_0 := Aside0.mk hx357_0
                       clear hcc357 hce357
                       (first | simp only [add_plain] at hx357_0 | simp only [add_at] at hx357_0 | simp only [Addr.add, Nat.zero_add] at hx357_0 | skip)
                       have qi357 : (0 < x6_1.length) = True := eq_true (by omega)
                       (try rw [show ((0 : Int)).toNat = 0 from rfl] at hx357_0)
                       (try rw [Addr.add_zero'] at hx357_0)
                       have HR357_0 := Aside0.mk hi357_0
                       have HC357_0 := Aside0.mk hl357_0
                       clear hi357_0 hl357_0
                       replace p357 := eq_true p357
                       replace q357 := eq_true q357
                       have p358 : 0 ≤ (a1 : Int) := Oa
                       have q358 : a1 < ((rd_L4 x6_1 0).length : Int) := Oa
                       obtain ⟨ad358, e358, hx358_0⟩ := Kd.at_bool (by repeat (first | (with_reducible exact HR357_0.out) | (with_reducible refine Kd.C_alloc ?_ _) | (with_reducible refine Kd.C_drewN ?_ _) | (with_reducible refine Kd.C_drew ?_) | exact HR357_0.out)) a1 p358 q358
                       (try rw [← Nbq61.out] at hx358_0)
                       cases e358
                       replace p358 := eq_true p358
                       replace q358 := eq_true q358
                       go_wp2
                       go_ret2
                       exact ⟨_, by first | rfl | (simp [errW_none, errW_some] <;> rfl) | (simp only [← hji5, ← hji8]; first | rfl | (simp [errW_none, errW_some] <;> rfl)) | (simp [*, errW_none, errW_some] <;> rfl), Nl, Ub⟩
                     rw [if_neg c60] at H
                     exact absurd H (by simp)
                   rw [if_neg c59] at H
                   exact absurd H (by simp)
                 rw [if_neg c58] at H
                 exact absurd H (by simp)
             rw [if_neg c14] at H
             exact absurd H (by simp)
           rw [if_neg c12] at H
           exact absurd H (by simp)
         rw [if_neg c11] at H
         exact absurd H (by simp)
       rw [if_neg c10] at H
       exact absurd H (by simp)
     rw [if_neg c9] at H
     exact absurd H (by simp)
   rw [if_neg c7] at H
   exact absurd H (by simp)
 rw [if_neg c6] at H
 exact absurd H (by simp)

end Go.Proofs.Ytkbllhlmcfjcdaa.PFnSumsMade
