-- MADE FOR THIS CLAIM by wip/xp/xprint.py (with the kit's print; some functions' contracts proved by hand)
import Derived.Test.YtkbllhlmcfjcdaaPFnChangeLeftx0
import Derived.Test.YtkbllhlmcfjcdaaPFnChangeLeftx2
import Derived.Test.YtkbllhlmcfjcdaaPFnChangeLeftx3
import Derived.Test.YtkbllhlmcfjcdaaPFnChangeLeftx4
import Derived.Test.YtkbllhlmcfjcdaaPFnChangeLeftx5
set_option maxHeartbeats 8000000
set_option maxRecDepth 100000
namespace Go.Proofs.Ytkbllhlmcfjcdaa.PFnChangeLeft
open Go.RowKit Go.Proofs.YtkbllhlmcfjcdaaW.PrintWords Go.Proofs.YtkbllhlmcfjcdaaW.PrintLast Go.Proofs.YtkbllhlmcfjcdaaW.PrintMore Go.Proofs.Ytkbllhlmcfjcdaa.Xmv
attribute [local go_sem] max2_int min2_int max_two min_two max_three min_three max_four min_four   -- for this text's walks alone
set_option linter.unusedVariables false
set_option linter.unusedSimpArgs false

/-! ### spec_ChangeFrom: function 8 -/
mutual
def spec_ChangeFrom.j0 : Nat → List Int → List Int → Int → Bool → Option (List Int × Bool)
 | 0, _, _, _, _ => none
 | k + 1, x0, x1, x2, x26 => if x26 = true then (some (([] : List Int), false)) else (if 0 ≤ (x0.length : Int) then (if ((x0.length : Int) : Int).toNat ≤ 35184372088832 then (spec_ChangeFrom.l0 k x0 x1 x2 (List.replicate ((x0.length : Int) : Int).toNat 0) x0 (x0.length : Int) 0) else (none)) else (none))
def spec_ChangeFrom.l0 : Nat → List Int → List Int → Int → List Int → List Int → Int → Int → Option (List Int × Bool)
 | 0, _, _, _, _, _, _, _ => none
 | k + 1, x0, x1, x2, x8, x30, x31, x32 => if x32 < x31 then (if 0 ≤ x32 then (if x32 < (x30.length : Int) then (if 0 ≤ (wrap64 (x32 + 1)) then (if (wrap64 (x32 + 1)) ≤ (x0.length : Int) then (if (wrap64 (x32 + 1)) ≤ (x1.length : Int) then ((spec_cnFrom.f k (x0.drop ((wrap64 (x32 + 1)) : Int).toNat) (x1.drop ((wrap64 (x32 + 1)) : Int).toNat) x2).bind fun t360 => (spec_ChangeFrom.l1 k x0 x1 x2 x8 x32 (rd x30 x32) t360 x30 x31 x32)) else (none)) else (none)) else (none)) else (none)) else (none)) else (some (x8, true))
def spec_ChangeFrom.l1 : Nat → List Int → List Int → Int → List Int → Int → Int → List Bool → List Int → Int → Int → Option (List Int × Bool)
 | 0, _, _, _, _, _, _, _, _, _, _ => none
 | k + 1, x0, x1, x2, x8, x9, x10, x11, x30, x31, x32 => if 0 ≤ x2 then (if x2 < (x11.length : Int) then (if rdOf false x11 x2 = true then (spec_ChangeFrom.l0 k x0 x1 x2 x8 x30 x31 (wrap64 (x32 + 1))) else (if 0 ≤ x9 then (if x9 < (x8.length : Int) then (spec_ChangeFrom.l1 k x0 x1 (wrap64 (x2 - x10)) (x8.set (x9 : Int).toNat (wrap64 ((rd x8 x9) + 1))) x9 x10 x11 x30 x31 x32) else (none)) else (none))) else (none)) else (none)
end
def spec_ChangeFrom.f (k : Nat) (l0 : List Int) (l1 : List Int) (a2 : Int) : Option (List Int × Bool) := (spec_cnPurse.f k l0 l1 a2).bind fun t349 => (if t349 = true then ((spec_cnFrom.f k l0 l1 a2).bind fun t350 => (if 0 ≤ a2 then (if a2 < (t350.length : Int) then (spec_ChangeFrom.j0 k l0 l1 a2 (!(rdOf false t350 a2))) else (none)) else (none))) else (spec_ChangeFrom.j0 k l0 l1 a2 true))
def spec_ChangeFrom.T7 : Bool × List (List Nat × List Nat) := (true, [([], []), ([], []), ([1], [1]), ([0, 2], [0, 2]), ([], []), ([], []), ([5], [5]), ([4, 6], [4, 6]), ([], []), ([3, 7, 8], [3, 7, 8]), ([9, 9, 0, 1, 2, 3, 4, 5, 6, 7, 8, 9], [9])])
def spec_ChangeFrom.B7 : List Nat := [0, 0, 2, 7, 0, 0, 32, 112, 0, 511, 1023]
theorem spec_ChangeFrom.tab7 : rtab .any (opsOf Try.f8 7) = spec_ChangeFrom.T7 := by kernel_rfl
theorem spec_ChangeFrom.bits7 : waitsOk spec_ChangeFrom.T7.2 spec_ChangeFrom.B7 = true := by kernel_rfl
theorem spec_ChangeFrom.calls (k : Nat) (A0 : Option Addr) (c0 : Nat) (l0 : List Int) (A1 : Option Addr) (c1 : Nat) (l1 : List Int) (a2 : Int) (r1 : List Int) (r2 : Bool) (w : World) (hr0 : Kd.C (Kd.int .i64) w A0 l0.length l0) (hc0 : l0.length ≤ c0) (hr1 : Kd.C (Kd.int .i64) w A1 l1.length l1) (hc1 : l1.length ≤ c1) (h : spec_ChangeFrom.f k l0 l1 a2 = some (r1, r2)) :
 Calls Try.prog 8 #[.slice A0 l0.length c0, .slice A1 l1.length c1, .int .i64 a2] w fun e w' => ∃ v0_ : Value, e = .returned (.tuple #[v0_, .bool r2]) ∧ Kd.R (Kd.int .i64) 3 w' w.heap.size (fun _ => True) v0_ r1 ∧ Below w.heap.size w w' := by
 have HR0 := Aside0.mk hr0
 have HC0 := Aside0.mk hc0
 clear hr0 hc0
 have HR1 := Aside0.mk hr1
 have HC1 := Aside0.mk hc1
 clear hr1 hc1
 have HB := Aside0.mk (Below.refl w.heap.size w)
 have H := h; unfold spec_ChangeFrom.f at H
 clear h
 have HC4 := Aside0.mk H
 clear H
 go_enter Try.func8, Try.ntmps8
 go_upto_region 1 with (fail)
 go_cut [26] (fun v26 wc => ∃ (kq : Nat) (x26_3 : Bool), v26 = .bool x26_3 ∧ Aside0 (spec_ChangeFrom.j0 kq l0 l1 a2 x26_3 = some (r1, r2)) ∧ Aside0 (kq ≤ k) ∧ Aside0 (Below w.heap.size w wc))
 case first =>
  have H := HC4.out
  clear HC4
  replace H := Option.bind_eq_some_iff.mp H
  obtain ⟨t349, A50, H⟩ := H
  have A5 := Aside0.mk A50
  clear A50
  replace H := Iw H; rcases H with ⟨rfl, H⟩ | ⟨rfl, H⟩
  · replace H := Option.bind_eq_some_iff.mp H
    obtain ⟨t350, A70, H⟩ := H
    have A7 := Aside0.mk A70
    clear A70
    replace H := Ip H; obtain ⟨c8, H⟩ := H
    have c8b0 := decide_eq_true c8
    clear c8
    (first | rw [c8b0] | (simp only [i64_w, i32_w]; rw [c8b0]) | skip)
    replace H := Ip H; obtain ⟨c9, H⟩ := H
    have c9b0 := decide_eq_true c9
    clear c9
    have H' := Aside0.mk H
    clear H
    go_wp2_with (first | (refine Gl 15 #[.slice A0 l0.length c0, .slice A1 l1.length c1, .int .i64 a2] Try.func53 ?_; (with_reducible refine (spec_cnPurse.calls k _ _ l0 _ _ l1 a2 true _ (Cm (Kd.C_below HR0.out HB.out)) HC0.out (Cm (Kd.C_below HR1.out HB.out)) HC1.out A5.out).mono ?_); rintro e w' ⟨rfl, ⟨nd, rfl⟩⟩; refine ⟨_, rfl, ?_⟩) | (go_at_call 54; (with_reducible refine (spec_cnFrom.calls k _ _ l0 _ _ l1 a2 t350 _ (Cm (Kd.C_below HR0.out Ub)) HC0.out (Cm (Kd.C_below HR1.out Ub)) HC1.out A7.out).mono ?_); rintro e w10 ⟨v351, rfl, ho0, hb⟩; have HO352 := Aside0.mk (Kd.R_lower ho0 (below_size Ub)); replace HB := Aside0.mk (below_step Ub hb); clear hb ho0; obtain ⟨Ao11, co11, eo11⟩ := Kd.R_slice HO352.out; subst eo11; have p353 : 0 ≤ (a2 : Int) := Oa; have q353 : a2 < (t350.length : Int) := Oa; obtain ⟨ad353, e353, hx353_0⟩ := Kd.at_bool (Kd.R_reads' HO352.out).2.2 a2 p353 q353; cases e353; replace p353 := eq_true p353; replace q353 := eq_true q353))
    go_meet
    case rel => exact ⟨_, (!(rdOf false t350 a2)), Rs, H', ⟨by first | omega | exact Nat.le_refl _⟩, ⟨Ub⟩⟩
  have H' := Aside0.mk H
  clear H
  go_wp2_with (first | (refine Gl 15 #[.slice A0 l0.length c0, .slice A1 l1.length c1, .int .i64 a2] Try.func53 ?_; (with_reducible refine (spec_cnPurse.calls k _ _ l0 _ _ l1 a2 false _ (Cm (Kd.C_below HR0.out HB.out)) HC0.out (Cm (Kd.C_below HR1.out HB.out)) HC1.out A5.out).mono ?_); rintro e w' ⟨rfl, ⟨nd, rfl⟩⟩; refine ⟨_, rfl, ?_⟩))
  go_meet
  case rel => exact ⟨_, (true), Rs, H', ⟨by first | omega | exact Nat.le_refl _⟩, ⟨Ub⟩⟩
 case rest =>
  clear HC4
  try clear c1
  try clear c8
  try clear c8b0
  try clear c9
  try clear c9b0
  try clear hx353_0
  try clear p353
  try clear q353
  obtain ⟨kq, x26_3, rfl, HA, HJ3, HB⟩ := hcut
  cases kq with
  | zero => exact absurd HA.out (by simp [spec_ChangeFrom.j0])
  | succ kj3 =>
   have H := HA.out
   clear HA
   simp only [spec_ChangeFrom.j0] at H
   by_cases c12 : x26_3 = true
   · subst c12
     have H1 : (some (([] : List Int), false)) = some (r1, r2) := by rw [if_pos rfl] at H; exact H
     clear H
     have H := H1
     clear H1
     simp only [Option.some.injEq, Prod.mk.injEq] at H
     obtain ⟨rfl, rfl⟩ := H
     go_wp2
     go_ret2
     exact ⟨_, Re, Nl, Ub⟩
   replace c12 := Bool.eq_false_iff.mpr c12
   subst c12
   have H1 : (if 0 ≤ (l0.length : Int) then (if ((l0.length : Int) : Int).toNat ≤ 35184372088832 then (spec_ChangeFrom.l0 kj3 l0 l1 a2 (List.replicate ((l0.length : Int) : Int).toNat 0) l0 (l0.length : Int) 0) else (none)) else (none)) = some (r1, r2) := by rw [if_neg (show ¬ (false = true) by decide)] at H; exact H
   clear H
   have H := H1
   clear H1
   replace H := Ic H; rcases H with ⟨c13, H⟩ | ⟨c13, H⟩
   · have c13b0 := eq_true c13
     have c13b1 := decide_eq_true c13
     clear c13
     replace H := Ip H; obtain ⟨c14, H⟩ := H
     have c14b0 := eq_true c14
     have c14b1 := decide_eq_true c14
     clear c14
     obtain ⟨y354, hy354⟩ : ∃ y_ : List Int, y_ = (List.replicate ((l0.length : Int) : Int).toNat 0) := ⟨_, rfl⟩
     replace H : (spec_ChangeFrom.l0 kj3 l0 l1 a2 y354 l0 (l0.length : Int) 0) = some (r1, r2) := by first | (rw [hy354]; with_reducible exact H) | (have H2_ := (Option.bind_some _ _).symm.trans H; rw [hy354]; with_reducible exact H2_) | (have H2_ := (Option.bind_some _ _).symm.trans H; with_reducible exact H2_) | with_reducible exact H | (rw [hy354]; exact H) | exact H
     have Ny354 := Aside0.mk hy354
     clear hy354
     have H' := Aside0.mk H
     clear H
     go_wp2_with (first | ((with_reducible refine gate_dst (N := 29) rfl ?_); refine Kd.R_make (Kd.int .i64) _ 3 rfl (N := 29) rfl 24 _ _ rfl (l0.length : Int) rfl rfl Try.underlying24 (.int .i64 0) 8 info3 rfl (by decide) (by omega) 0 (ok := fun _ => True) (okp := fun _ => True) rfl (fun _ hk => hk) trivial (Oa) (Nat.le_trans (Nat.mul_le_mul_right _ (Oa : (l0.length : Int).toNat ≤ 35184372088832)) (by omega)) (Below.refl _ _) (Nat.le_refl _) ?_; intro v355 w15 ho16 hb hg_ hnew_; clear hg_ hnew_; (first | rw [← Ny354.out] at ho16 | (simp only [Int.reduceToNat] at ho16; rw [← Ny354.out] at ho16)); have HO356 := Aside0.mk (Kd.R_lower ho16 (below_size Ub)); replace HB := Aside0.mk (below_step Ub hb); clear hb ho16))
     go_loopg [2, 32] kj3 (fun kq v2 v32 w' => ∃ (x2_2 : Int) (x8_2 : List Int) (x32_2 : Int), v2 = .int .i64 x2_2 ∧ v32 = .int .i64 x32_2 ∧ Aside0 (spec_ChangeFrom.l0 kq l0 l1 x2_2 x8_2 l0 (l0.length : Int) x32_2 = some (r1, r2)) ∧ Aside0 (kq ≤ kj3) ∧ Aside0 (Kd.R (Kd.int .i64) 3 w' w.heap.size (fun _ => True) v355 x8_2) ∧ Aside0 (Below w.heap.size w w'))
     case atStart => exact ⟨(a2), (y354), (0), Rs, Rs, H', ⟨Nat.le_refl _⟩, ⟨Rm HO356.out⟩, ⟨Ub⟩⟩
     case round =>
      clear H'
      try clear c1
      try clear c8
      try clear c8b0
      try clear c9
      try clear c9b0
      try clear c12
      try clear c13
      try clear c13b0
      try clear c13b1
      try clear c14
      try clear c14b0
      try clear c14b1
      try clear hx353_0
      try clear p353
      try clear q353
      obtain ⟨x2_2, x8_2, x32_2, rfl, rfl, HA, HK2, HO_8, HB⟩ := hrel
      cases gk with
      | zero => exact absurd HA.out (by simp [spec_ChangeFrom.l0])
      | succ k2 =>
       have H := HA.out
       clear HA
       simp only [spec_ChangeFrom.l0] at H
       replace H := Ic H; rcases H with ⟨c17, H⟩ | ⟨c17, H⟩
       · have c17b0 := decide_eq_true c17
         clear c17
         replace H := Ip H; obtain ⟨c18, H⟩ := H
         have c18b0 := decide_eq_true c18
         clear c18
         replace H := Ip H; obtain ⟨c19, H⟩ := H
         have c19b0 := decide_eq_true c19
         clear c19
         obtain ⟨ji20, hji20⟩ : ∃ j_ : Int, (wrap64 (x32_2 + 1)) = j_ := ⟨_, rfl⟩
         replace H : (if 0 ≤ (ji20) then (if (ji20) ≤ (l0.length : Int) then (if (ji20) ≤ (l1.length : Int) then ((spec_cnFrom.f k2 (l0.drop ((ji20) : Int).toNat) (l1.drop ((ji20) : Int).toNat) x2_2).bind fun t360 => (spec_ChangeFrom.l1 k2 l0 l1 x2_2 x8_2 x32_2 (rd l0 x32_2) t360 l0 (l0.length : Int) x32_2)) else (none)) else (none)) else (none)) = some (r1, r2) := by first | (rw [hji20] at H; exact H) | (simp only [hji20] at H ⊢; exact H)
         have hji20w : (IntKind.i64.wrap (x32_2 + 1)) = ji20 := (i64_w _).trans hji20
         replace H := Ip H; obtain ⟨c21, H⟩ := H
         have c21b0 := eq_true c21
         have c21b1 := decide_eq_true c21
         clear c21
         replace H := Ip H; obtain ⟨c22, H⟩ := H
         have c22b0 := eq_true c22
         have c22b1 := decide_eq_true c22
         clear c22
         have c23b0 := eq_true (Oa : 0 ≤ (ji20))
         replace H := Ip H; obtain ⟨c24, H⟩ := H
         have c24b0 := eq_true c24
         have c24b1 := decide_eq_true c24
         clear c24
         replace H := Option.bind_eq_some_iff.mp H
         obtain ⟨t360, A250, H⟩ := H
         have A25 := Aside0.mk A250
         clear A250
         have H' := Aside0.mk H
         clear H
         obtain ⟨p357, q357, ad357, e357, hx357_0⟩ := Ai HR0.out x32_2
         cases e357
         replace hx357_0 := (HB.out.cell (World.block_lt_of_cell? w _ hx357_0)).trans hx357_0
         try go_wp2
         replace HO_8 := Aside0.mk (Kd.R_drew HO_8.out); replace HB := Aside0.mk (below_drew1 HB.out)
         obtain ⟨i027, hi027, _, hsz27, _⟩ := info_parts info3
         obtain ⟨A27, hcut27, hA27, hC27⟩ := print_drop_of (P := Try.prog) (Value.int .i64) 0 24 3 .i64 Try.underlying24 hi027 hsz27 (some ad357) c0 l0 (ji20) (Oa) (Oa) HC0.out
         have HR358 := Aside0.mk (Kd.C_of_reads (h1 := fun _ => rfl) (hA27 _ (Kd.reads_of_C HR0.out)))
         have HC358 := Aside0.mk hC27
         clear hA27 hC27 hi027 hsz27
         obtain ⟨i028, hi028, _, hsz28, _⟩ := info_parts info3
         obtain ⟨A28, hcut28, hA28, hC28⟩ := print_drop_of (P := Try.prog) (Value.int .i64) 0 24 3 .i64 Try.underlying24 hi028 hsz28 A1 c1 l1 (ji20) (Oa) (Oa) HC1.out
         have HR359 := Aside0.mk (Kd.C_of_reads (h1 := fun _ => rfl) (hA28 _ (Kd.reads_of_C HR1.out)))
         have HC359 := Aside0.mk hC28
         clear hA28 hC28 hi028 hsz28
         refine start_ (n := 11) (S := fun w' => True) (ds := []) #[false, false, false, false, false, false, false, false, false, false, false] (by kernel_rfl) rfl rfl trivial (fun hHeld => ?_); refine with_tabW spec_ChangeFrom.tab7 spec_ChangeFrom.bits7 (fun HT_ HW_ => ?_)
         generalize wr.drew = w26 at HO_8 HB HR358 HR359 hHeld ⊢
         refine Pu 0 37 #[true, false, false, false, false, false, false, false, false, false, false] HT_.out ?_
         refine Pu 1 38 #[true, true, false, false, false, false, false, false, false, false, false] HT_.out ?_
         refine Pu 2 39 #[true, true, true, false, false, false, false, false, false, false, false] HT_.out ?_
         refine Pu 3 40 #[true, true, true, true, false, false, false, false, false, false, false] HT_.out ?_
         refine Pu 4 41 #[true, true, true, true, true, false, false, false, false, false, false] HT_.out ?_
         refine Pu 5 42 #[true, true, true, true, true, true, false, false, false, false, false] HT_.out ?_
         refine Pu 6 43 #[true, true, true, true, true, true, true, false, false, false, false] HT_.out ?_
         refine Pu 7 44 #[true, true, true, true, true, true, true, true, false, false, false] HT_.out ?_
         refine Pu 8 45 #[true, true, true, true, true, true, true, true, true, false, false] HT_.out ?_
         refine one_ (i := 9) (N := some 46) #[true, true, true, true, true, true, true, true, true, true, false] rfl rfl (one_of HT_.out (by kernel_rfl)) (by decide) (fun K hK => ?_)
         refine goes_ Try.func54 (by kernel_rfl) rfl #[.slice A27 (l0.drop ((ji20) : Int).toNat).length (c0 - (ji20).toNat), .slice A28 (l1.drop ((ji20) : Int).toNat).length (c1 - (ji20).toNat), .int .i64 x2_2] (by rfl) rfl rfl (by (try simp only [List.map_toArray, List.map_cons, List.map_nil]); first | done | (rw [show (l0.drop ((ji20) : Int).toNat).length = (l0.length - (ji20).toNat) from List.length_drop] <;> rfl) | (rw [show (l1.drop ((ji20) : Int).toNat).length = (l1.length - (ji20).toNat) from List.length_drop] <;> rfl) | (simp only [hji20]; rfl) | rfl | (simp only [List.length_drop, List.length_take]; rfl)) ?_
         with_reducible refine (spec_cnFrom.calls k2 _ _ (l0.drop ((ji20) : Int).toNat) _ _ (l1.drop ((ji20) : Int).toNat) x2_2 t360 _ ?side1 ?side2 ?side3 ?side4 A25.out).mono ?_
         (case side1 => repeat (first | exact (Kd.C_below HR358.out HB.out) | (with_reducible refine Kd.C_alloc ?_ _) | (with_reducible refine Kd.C_drewN ?_ _) | (with_reducible refine Kd.C_drew ?_)))
         (case side2 => exact HC358.out)
         (case side3 => repeat (first | exact (Kd.C_below HR359.out HB.out) | (with_reducible refine Kd.C_alloc ?_ _) | (with_reducible refine Kd.C_drewN ?_ _) | (with_reducible refine Kd.C_drew ?_)))
         (case side4 => exact HC359.out)
         rintro e w29 ⟨v361, rfl, ho0, hb⟩
         refine ⟨_, rfl, ?_⟩
         replace HO_8 := Aside0.mk (Kd.R_below (Rm HO_8.out) hb); have HO362 := Aside0.mk (Kd.R_lower ho0 (below_size Ub)); replace HB := Aside0.mk (below_step Ub hb); (try clear hb); (try clear hb2); (try clear hk); (try clear hi); (try clear ho0)
         refine hK.out _ _ trivial (fun hHeld => ?_)
         clear hK K
         refine norm_ (a' := ?_) ?_ ?_
         rotate_left
         · show Act.put _ (some 46) _ = _
           simp only [Act.put, List.setIfInBounds_toArray, List.set_cons_zero, List.set_cons_succ, i64_w, i32_w]
           rfl
         refine Pu 10 11 #[true, true, true, true, true, true, true, true, true, true, true] HT_.out ?_
         refine done_ (done_of HT_.out (by kernel_rfl)) ?_
         try go_wp2
         go_loopg [2] k2 (fun kq v2 w' => ∃ (x2_3 : Int) (x8_3 : List Int), v2 = .int .i64 x2_3 ∧ Aside0 (spec_ChangeFrom.l1 kq l0 l1 x2_3 x8_3 x32_2 (rd l0 x32_2) t360 l0 (l0.length : Int) x32_2 = some (r1, r2)) ∧ Aside0 (kq ≤ k2) ∧ Aside0 (Kd.R (Kd.int .i64) 3 w' w.heap.size (fun _ => True) v355 x8_3) ∧ Aside0 (Kd.R Kd.bool 4 w' w.heap.size (fun _ => True) v361 t360) ∧ Aside0 (Below w.heap.size w w'))
         case atStart => exact ⟨(x2_2), (x8_2), Rs, H', ⟨Nat.le_refl _⟩, ⟨Rm HO_8.out⟩, ⟨Rm HO362.out⟩, ⟨Ub⟩⟩
         case round =>
          clear H'
          try clear c1
          try clear c8
          try clear c8b0
          try clear c9
          try clear c9b0
          try clear c12
          try clear c13
          try clear c13b0
          try clear c13b1
          try clear c14
          try clear c14b0
          try clear c14b1
          try clear c17
          try clear c17b0
          try clear c18
          try clear c18b0
          try clear c19
          try clear c19b0
          try clear c21
          try clear c21b0
          try clear c21b1
          try clear c22
          try clear c22b0
          try clear c22b1
          try clear c23b0
          try clear c24
          try clear c24b0
          try clear c24b1
          try clear hx353_0
          try clear hx357_0
          try clear p353
          try clear p357
          try clear q353
          try clear q357
          obtain ⟨x2_3, x8_3, rfl, HA, HK3, HO_8, HO_11, HB⟩ := hrel
          cases gk with
          | zero => exact absurd HA.out (by simp [spec_ChangeFrom.l1])
          | succ k3 =>
           have H := HA.out
           clear HA
           simp only [spec_ChangeFrom.l1] at H
           replace H := Ip H; obtain ⟨c30, H⟩ := H
           have c30b0 := decide_eq_true c30
           clear c30
           replace H := Ip H; obtain ⟨c31, H⟩ := H
           have c31b0 := decide_eq_true c31
           clear c31
           obtain ⟨bq32, hbq32⟩ : ∃ b_ : Bool, b_ = (rdOf false t360 x2_3) := ⟨_, rfl⟩
           replace H : (if bq32 = true then (spec_ChangeFrom.l0 k3 l0 l1 x2_3 x8_3 l0 (l0.length : Int) (wrap64 (x32_2 + 1))) else (if 0 ≤ x32_2 then (if x32_2 < (x8_3.length : Int) then (spec_ChangeFrom.l1 k3 l0 l1 (wrap64 (x2_3 - (rd l0 x32_2))) (x8_3.set (x32_2 : Int).toNat (wrap64 ((rd x8_3 x32_2) + 1))) x32_2 (rd l0 x32_2) t360 l0 (l0.length : Int) x32_2) else (none)) else (none))) = some (r1, r2) := by rw [← hbq32] at H; exact H
           have Nbq32 := Aside0.mk hbq32
           clear hbq32
           by_cases c33 : bq32 = true
           · subst c33
             have H1 : (spec_ChangeFrom.l0 k3 l0 l1 x2_3 x8_3 l0 (l0.length : Int) (wrap64 (x32_2 + 1))) = some (r1, r2) := by rw [if_pos rfl] at H; exact H
             clear H
             have H := H1
             clear H1
             have H' := Aside0.mk H
             clear H
             obtain ⟨Ao34, co34, eo34⟩ := Kd.R_slice HO_11.out
             subst eo34
             have p363 : 0 ≤ (x2_3 : Int) := Oa
             have q363 : x2_3 < (t360.length : Int) := Oa
             obtain ⟨ad363, e363, hx363_0⟩ := Kd.at_bool (Kd.R_reads' HO_11.out).2.2 x2_3 p363 q363
             (try rw [← Nbq32.out] at hx363_0)
             cases e363
             replace p363 := eq_true p363
             replace q363 := eq_true q363
             go_wp2
             go_roundg k3
             case measure => have := HJ3.out; have := HK2.out; have := HK3.out; omega
             case rel => exact ⟨(x2_3), (x8_3), (wrap64 (x32_2 + 1)), Rs, Rs, H', ⟨by have := HJ3.out; have := HK2.out; have := HK3.out; omega⟩, ⟨Rm HO_8.out⟩, ⟨Ub⟩⟩
           replace c33 := Bool.eq_false_iff.mpr c33
           subst c33
           have H1 : (if 0 ≤ x32_2 then (if x32_2 < (x8_3.length : Int) then (spec_ChangeFrom.l1 k3 l0 l1 (wrap64 (x2_3 - (rd l0 x32_2))) (x8_3.set (x32_2 : Int).toNat (wrap64 ((rd x8_3 x32_2) + 1))) x32_2 (rd l0 x32_2) t360 l0 (l0.length : Int) x32_2) else (none)) else (none)) = some (r1, r2) := by rw [if_neg (show ¬ (false = true) by decide)] at H; exact H
           clear H
           have H := H1
           clear H1
           replace H := Ip H; obtain ⟨c35, H⟩ := H
           have c35b0 := decide_eq_true c35
           clear c35
           replace H := Ip H; obtain ⟨c36, H⟩ := H
           have c36b0 := decide_eq_true c36
           clear c36
           obtain ⟨y365, hy365⟩ : ∃ y_ : List Int, y_ = (x8_3.set (x32_2 : Int).toNat (wrap64 ((rd x8_3 x32_2) + 1))) := ⟨_, rfl⟩
           replace H : (spec_ChangeFrom.l1 k3 l0 l1 (wrap64 (x2_3 - (rd l0 x32_2))) y365 x32_2 (rd l0 x32_2) t360 l0 (l0.length : Int) x32_2) = some (r1, r2) := by first | (rw [hy365]; with_reducible exact H) | (have H2_ := (Option.bind_some _ _).symm.trans H; rw [hy365]; with_reducible exact H2_) | (have H2_ := (Option.bind_some _ _).symm.trans H; with_reducible exact H2_) | with_reducible exact H | (rw [hy365]; exact H) | exact H
           have Ny365 := Aside0.mk hy365
           clear hy365
           have H' := Aside0.mk H
           clear H
           obtain ⟨Ao38, co38, eo38⟩ := Kd.R_slice HO_11.out
           subst eo38
           have p363 : 0 ≤ (x2_3 : Int) := Oa
           have q363 : x2_3 < (t360.length : Int) := Oa
           obtain ⟨ad363, e363, hx363_0⟩ := Kd.at_bool (Kd.R_reads' HO_11.out).2.2 x2_3 p363 q363
           (try rw [← Nbq32.out] at hx363_0)
           cases e363
           replace p363 := eq_true p363
           replace q363 := eq_true q363
           obtain ⟨Ao39, co39, eo39⟩ := Kd.R_slice HO_8.out
           subst eo39
           obtain ⟨p364, q364, ad364, e364, hx364_0⟩ := Ai (Kd.R_reads' HO_8.out).2.2 x32_2
           cases e364
           have p37 : 0 ≤ (x32_2 : Int) := Oa
           have q37 : (x32_2 : Int) < ((x8_3.length : Int) : Int) := Oa
           obtain ⟨go37, co37, eo37, gb37, gl37, cl37, HG37⟩ := Kd.R_form HO_8.out (by omega)
           (first | cases eo37 | (injection eo37 with ea_ en_ ec_; (first | subst ea_ | (injection ea_ with ea_; subst ea_)); subst ec_; clear en_))
           have GB37 := Aside0.mk gb37
           have GG37 := Aside0.mk HG37
           clear gb37 gl37 HG37
           (first | simp only [add_plain] at hx364_0 | skip)
           obtain ⟨hx37_0, hf37_0⟩ := Kd.R_celln 0 HO_8.out (x32_2 : Int) p37 q37
           replace p37 := eq_true p37
           replace q37 := eq_true q37
           have HP40 := Kd.R_putg HO_8.out (x32_2 : Int) (wrap64 ((rd x8_3 x32_2) + 1))
           go_wp2_with (first | ((with_reducible refine gate_store (t := 3) (p := 57) rfl ?_); refine store_event (t := 3) (p := 57) (v := ?vo_w41) (w1 := (wr.setCell ⟨go37, (x32_2 : Int).toNat, none⟩ (.int .i64 (wrap64 ((rd x8_3 x32_2) + 1))))) ?hg ?ho ?hn ?hr ?_; (case ho => rfl); (case hg => rfl); (case hn => rfl); (case hr => first | (go_simp; done) | (go_simp; rfl)); intro w41 hw; have hg : wr.grownBy w41 (some go37) := (by rw [hw]; exact HP40.2); have hp_ : Kd.R (Kd.int .i64) 3 w41 w.heap.size (fun _ => True) (.slice (some ⟨go37, 0, none⟩) x8_3.length co39) y365 := (by rw [hw, Ny365.out]; exact HP40.1); clear HP40; replace HO_11 := Aside0.mk (Kd.R_over' (v := (.slice (some ⟨go37, 0, none⟩) x8_3.length co39)) (Rm HO_11.out) (Kd.R_typed HO_8.out) (by decide) hg); replace HO_8 := Aside0.mk (hp_); replace HB := Aside0.mk ((by rw [hw]; exact below_set (HB.out) GB37.out : Below w.heap.size w w41)); clear hg hw hp_))
           go_roundg k3
           case measure => have := HJ3.out; have := HK2.out; have := HK3.out; omega
           case rel => exact ⟨(wrap64 (x2_3 - (rd l0 x32_2))), (y365), Rs, H', ⟨by have := HJ3.out; have := HK2.out; have := HK3.out; omega⟩, ⟨Rm HO_8.out⟩, ⟨Rm HO_11.out⟩, ⟨Ub⟩⟩
       have c17b0 := decide_eq_false c17
       clear c17
       simp only [Option.some.injEq, Prod.mk.injEq] at H
       obtain ⟨rfl, rfl⟩ := H
       go_wp2
       go_ret2
       exact ⟨_, Re, Rm HO_8.out, Ub⟩
   exact absurd H (by simp)

/-! ### impl_CanChange: function 9 -/
def impl_CanChange.f (k : Nat) (l0 : List Int) (l1 : List Int) (a2 : Int) : Option (Bool × Bool) := (impl_isPurse.f k l0 l1 a2).bind fun t366 => (if t366 = true then ((impl_ChangeFrom.f k l0 l1 a2).bind fun bt367 => (some (bt367.2, true))) else (some (false, false)))
theorem impl_CanChange.calls (k : Nat) (A0 : Option Addr) (c0 : Nat) (l0 : List Int) (A1 : Option Addr) (c1 : Nat) (l1 : List Int) (a2 : Int) (r1 : Bool) (r2 : Bool) (w : World) (hr0 : Kd.C (Kd.int .i64) w A0 l0.length l0) (hc0 : l0.length ≤ c0) (hr1 : Kd.C (Kd.int .i64) w A1 l1.length l1) (hc1 : l1.length ≤ c1) (h : impl_CanChange.f k l0 l1 a2 = some (r1, r2)) :
 Calls Try.prog 9 #[.slice A0 l0.length c0, .slice A1 l1.length c1, .int .i64 a2] w fun e w' => e = .returned (.tuple #[.bool r1, .bool r2]) ∧ Below w.heap.size w w' := by
 have HR0 := Aside0.mk hr0
 have HC0 := Aside0.mk hc0
 clear hr0 hc0
 have HR1 := Aside0.mk hr1
 have HC1 := Aside0.mk hc1
 clear hr1 hc1
 have HB := Aside0.mk (Below.refl w.heap.size w)
 have H := h; unfold impl_CanChange.f at H
 clear h
 replace H := Option.bind_eq_some_iff.mp H
 obtain ⟨t366, A40, H⟩ := H
 have A4 := Aside0.mk A40
 clear A40
 replace H := Iw H; rcases H with ⟨rfl, H⟩ | ⟨rfl, H⟩
 · replace H := Option.bind_eq_some_iff.mp H
   obtain ⟨⟨t367, t368⟩, A60, H⟩ := H
   have A6 := Aside0.mk A60
   clear A60
   simp only [Option.some.injEq, Prod.mk.injEq] at H
   obtain ⟨rfl, rfl⟩ := H
   go_enter Try.func9, Try.ntmps9
   go_wp2_with (first | (refine Gl 13 #[.slice A0 l0.length c0, .slice A1 l1.length c1, .int .i64 a2] Try.func52 ?_; (with_reducible refine (impl_isPurse.calls k _ _ l0 _ _ l1 a2 true _ (Cm HR0.out) HC0.out (Cm HR1.out) HC1.out A4.out).mono ?_); rintro e w7 ⟨rfl, hb⟩; refine ⟨_, rfl, ?_⟩; replace HB := Aside0.mk (below_step Ub hb); clear hb) | (refine Gl 19 #[.slice A0 l0.length c0, .slice A1 l1.length c1, .int .i64 a2] Try.func7 ?_; (with_reducible refine (impl_ChangeFrom.calls k _ _ l0 _ _ l1 a2 t367 t368 _ (Cm (Kd.C_below HR0.out HB.out)) HC0.out (Cm (Kd.C_below HR1.out HB.out)) HC1.out A6.out).mono ?_); rintro e w8 ⟨v369, rfl, ho0, hb⟩; refine ⟨_, rfl, ?_⟩; have HO370 := Aside0.mk (Kd.R_lower ho0 (below_size Ub)); replace HB := Aside0.mk (below_step Ub hb); clear hb ho0))
   go_ret2
   exact ⟨Re, Ub⟩
 simp only [Option.some.injEq, Prod.mk.injEq] at H
 obtain ⟨rfl, rfl⟩ := H
 go_enter Try.func9, Try.ntmps9
 go_wp2_with (first | (refine Gl 13 #[.slice A0 l0.length c0, .slice A1 l1.length c1, .int .i64 a2] Try.func52 ?_; (with_reducible refine (impl_isPurse.calls k _ _ l0 _ _ l1 a2 false _ (Cm HR0.out) HC0.out (Cm HR1.out) HC1.out A4.out).mono ?_); rintro e w9 ⟨rfl, hb⟩; refine ⟨_, rfl, ?_⟩; replace HB := Aside0.mk (below_step Ub hb); clear hb))
 go_ret2
 exact ⟨Re, Ub⟩

/-! ### spec_CanChange: function 10 -/
def spec_CanChange.f (k : Nat) (l0 : List Int) (l1 : List Int) (a2 : Int) : Option (Bool × Bool) := (spec_cnPurse.f k l0 l1 a2).bind fun t371 => (if t371 = true then ((spec_cnFrom.f k l0 l1 a2).bind fun t372 => (if 0 ≤ a2 then (if a2 < (t372.length : Int) then (some (rdOf false t372 a2, true)) else (none)) else (none))) else (some (false, false)))
theorem spec_CanChange.calls (k : Nat) (A0 : Option Addr) (c0 : Nat) (l0 : List Int) (A1 : Option Addr) (c1 : Nat) (l1 : List Int) (a2 : Int) (r1 : Bool) (r2 : Bool) (w : World) (hr0 : Kd.C (Kd.int .i64) w A0 l0.length l0) (hc0 : l0.length ≤ c0) (hr1 : Kd.C (Kd.int .i64) w A1 l1.length l1) (hc1 : l1.length ≤ c1) (h : spec_CanChange.f k l0 l1 a2 = some (r1, r2)) :
 Calls Try.prog 10 #[.slice A0 l0.length c0, .slice A1 l1.length c1, .int .i64 a2] w fun e w' => e = .returned (.tuple #[.bool r1, .bool r2]) ∧ Below w.heap.size w w' := by
 have HR0 := Aside0.mk hr0
 have HC0 := Aside0.mk hc0
 clear hr0 hc0
 have HR1 := Aside0.mk hr1
 have HC1 := Aside0.mk hc1
 clear hr1 hc1
 have HB := Aside0.mk (Below.refl w.heap.size w)
 have H := h; unfold spec_CanChange.f at H
 clear h
 replace H := Option.bind_eq_some_iff.mp H
 obtain ⟨t371, A40, H⟩ := H
 have A4 := Aside0.mk A40
 clear A40
 replace H := Iw H; rcases H with ⟨rfl, H⟩ | ⟨rfl, H⟩
 · replace H := Option.bind_eq_some_iff.mp H
   obtain ⟨t372, A60, H⟩ := H
   have A6 := Aside0.mk A60
   clear A60
   replace H := Ip H; obtain ⟨c7, H⟩ := H
   have c7b0 := decide_eq_true c7
   clear c7
   replace H := Ip H; obtain ⟨c8, H⟩ := H
   have c8b0 := decide_eq_true c8
   clear c8
   simp only [Option.some.injEq, Prod.mk.injEq] at H
   obtain ⟨rfl, rfl⟩ := H
   go_enter Try.func10, Try.ntmps10
   go_wp2_with (first | (refine Gl 11 #[.slice A0 l0.length c0, .slice A1 l1.length c1, .int .i64 a2] Try.func53 ?_; (with_reducible refine (spec_cnPurse.calls k _ _ l0 _ _ l1 a2 true _ (Cm HR0.out) HC0.out (Cm HR1.out) HC1.out A4.out).mono ?_); rintro e w' ⟨rfl, ⟨nd, rfl⟩⟩; refine ⟨_, rfl, ?_⟩) | (refine Gl 16 #[.slice A0 l0.length c0, .slice A1 l1.length c1, .int .i64 a2] Try.func54 ?_; (with_reducible refine (spec_cnFrom.calls k _ _ l0 _ _ l1 a2 t372 _ (Cm HR0.out) HC0.out (Cm HR1.out) HC1.out A6.out).mono ?_); rintro e w9 ⟨v373, rfl, ho0, hb⟩; refine ⟨_, rfl, ?_⟩; have HO374 := Aside0.mk (Kd.R_lower ho0 (below_size Ub)); replace HB := Aside0.mk (below_step Ub hb); clear hb ho0; obtain ⟨Ao10, co10, eo10⟩ := Kd.R_slice HO374.out; subst eo10; have p375 : 0 ≤ (a2 : Int) := Oa; have q375 : a2 < (t372.length : Int) := Oa; obtain ⟨ad375, e375, hx375_0⟩ := Kd.at_bool (Kd.R_reads' HO374.out).2.2 a2 p375 q375; cases e375; replace p375 := eq_true p375; replace q375 := eq_true q375))
   go_ret2
   exact ⟨Re, Ub⟩
 simp only [Option.some.injEq, Prod.mk.injEq] at H
 obtain ⟨rfl, rfl⟩ := H
 go_enter Try.func10, Try.ntmps10
 go_wp2_with (first | (refine Gl 11 #[.slice A0 l0.length c0, .slice A1 l1.length c1, .int .i64 a2] Try.func53 ?_; (with_reducible refine (spec_cnPurse.calls k _ _ l0 _ _ l1 a2 false _ (Cm HR0.out) HC0.out (Cm HR1.out) HC1.out A4.out).mono ?_); rintro e w' ⟨rfl, ⟨nd, rfl⟩⟩; refine ⟨_, rfl, ?_⟩))
 go_ret2
 exact ⟨Re, Ub⟩

end Go.Proofs.Ytkbllhlmcfjcdaa.PFnChangeLeft
