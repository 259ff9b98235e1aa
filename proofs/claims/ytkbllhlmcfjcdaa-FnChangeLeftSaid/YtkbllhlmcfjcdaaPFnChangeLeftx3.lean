-- MADE FOR THIS CLAIM by wip/xp/xprint.py (with the kit's print; some functions' contracts proved by hand)
import Derived.Test.YtkbllhlmcfjcdaaPFnChangeLeftx0
import Derived.Test.YtkbllhlmcfjcdaaPFnChangeLeftx2
set_option maxHeartbeats 8000000
set_option maxRecDepth 100000
namespace Go.Proofs.Ytkbllhlmcfjcdaa.PFnChangeLeft
open Go.RowKit Go.Proofs.YtkbllhlmcfjcdaaW.PrintWords Go.Proofs.YtkbllhlmcfjcdaaW.PrintLast Go.Proofs.YtkbllhlmcfjcdaaW.PrintMore Go.Proofs.Ytkbllhlmcfjcdaa.Xmv
attribute [local go_sem] max2_int min2_int max_two min_two max_three min_three max_four min_four   -- for this text's walks alone
set_option linter.unusedVariables false
set_option linter.unusedSimpArgs false

/-! ### impl_ChangeFrom: function 7 -/
mutual
def impl_ChangeFrom.l0 : Nat → List Int → List Int → Int → List (List Int) → List Int → Int → Int → Option (List Int × Bool)
 | 0, _, _, _, _, _, _, _ => none
 | k + 1, x0, x1, x2, x8, x9, x30, x31 => if x31 < x30 then (if 0 ≤ x31 then (if x31 < (x9.length : Int) then (impl_ChangeFrom.l0 k x0 x1 x2 x8 (x9.set (x31 : Int).toNat 1001) x30 (wrap64 (x31 + 1))) else (none)) else (none)) else (if 0 < (x9.length : Int) then (if 0 ≤ (x0.length : Int) then (if (x0.length : Int) < (x8.length : Int) then (impl_ChangeFrom.l1 k x0 x1 x2 (x8.set ((x0.length : Int) : Int).toNat (x9.set (0 : Int).toNat 0)) (wrap64 ((x0.length : Int) - 1))) else (none)) else (none)) else (none))
def impl_ChangeFrom.l1 : Nat → List Int → List Int → Int → List (List Int) → Int → Option (List Int × Bool)
 | 0, _, _, _, _, _ => none
 | k + 1, x0, x1, x2, x8, x11 => if x11 ≥ 0 then (if 0 ≤ (wrap64 (x2 + 1)) then (if (wrap64 (x2 + 1) : Int).toNat ≤ 35184372088832 then (if 0 ≤ x11 then (if x11 < (x8.length : Int) then ((some (x8.set (x11 : Int).toNat (List.replicate (wrap64 (x2 + 1) : Int).toNat 0) : List (List Int))).bind fun y276 => (impl_ChangeFrom.l2 k x0 x1 x2 y276 x11 ((rd_L2 y276 x11).length : Int) 0)) else (none)) else (none)) else (none)) else (none)) else (if 0 < (x8.length : Int) then (if 0 ≤ x2 then (if x2 < ((rd_L2 x8 0).length : Int) then (if (rd (rd_L2 x8 0) x2) = 1001 then (some (([] : List Int), false)) else (impl_ChangeFrom.l3 k x2 x8 (([] : List Int)) x0 (x0.length : Int) 0)) else (none)) else (none)) else (none))
def impl_ChangeFrom.l2 : Nat → List Int → List Int → Int → List (List Int) → Int → Int → Int → Option (List Int × Bool)
 | 0, _, _, _, _, _, _, _ => none
 | k + 1, x0, x1, x2, x8, x11, x62, x63 => if x63 < x62 then (if 0 ≤ (wrap64 (x11 + 1)) then (if (wrap64 (x11 + 1)) < (x8.length : Int) then (if 0 ≤ x63 then (if x63 < ((rd_L2 x8 (wrap64 (x11 + 1))).length : Int) then (if (rd (rd_L2 x8 (wrap64 (x11 + 1))) x63) < 1001 then (if 0 ≤ x11 then (if x11 < (x8.length : Int) then (if x63 < ((rd_L2 x8 x11).length : Int) then (impl_ChangeFrom.l2 k x0 x1 x2 (x8.set (x11 : Int).toNat ((rd_L2 x8 x11).set (x63 : Int).toNat 0)) x11 x62 (wrap64 (x63 + 1))) else (none)) else (none)) else (none)) else (if 0 ≤ x11 then (if x11 < (x0.length : Int) then (if x63 ≥ (rd x0 x11) then (if x11 < (x8.length : Int) then (if 0 ≤ (wrap64 (x63 - (rd x0 x11))) then (if (wrap64 (x63 - (rd x0 x11))) < ((rd_L2 x8 x11).length : Int) then (if x11 < (x1.length : Int) then (if (rd (rd_L2 x8 x11) (wrap64 (x63 - (rd x0 x11)))) < (rd x1 x11) then (if x63 < ((rd_L2 x8 x11).length : Int) then (impl_ChangeFrom.l2 k x0 x1 x2 (x8.set (x11 : Int).toNat ((rd_L2 x8 x11).set (x63 : Int).toNat (wrap64 ((rd (rd_L2 x8 x11) (wrap64 (x63 - (rd x0 x11)))) + 1)))) x11 x62 (wrap64 (x63 + 1))) else (none)) else (if x63 < ((rd_L2 x8 x11).length : Int) then (impl_ChangeFrom.l2 k x0 x1 x2 (x8.set (x11 : Int).toNat ((rd_L2 x8 x11).set (x63 : Int).toNat 1001)) x11 x62 (wrap64 (x63 + 1))) else (none))) else (none)) else (none)) else (none)) else (none)) else (if x11 < (x8.length : Int) then (if x63 < ((rd_L2 x8 x11).length : Int) then (impl_ChangeFrom.l2 k x0 x1 x2 (x8.set (x11 : Int).toNat ((rd_L2 x8 x11).set (x63 : Int).toNat 1001)) x11 x62 (wrap64 (x63 + 1))) else (none)) else (none))) else (none)) else (none))) else (none)) else (none)) else (none)) else (none)) else (impl_ChangeFrom.l1 k x0 x1 x2 x8 (wrap64 (x11 - 1)))
def impl_ChangeFrom.l3 : Nat → Int → List (List Int) → List Int → List Int → Int → Int → Option (List Int × Bool)
 | 0, _, _, _, _, _, _ => none
 | k + 1, x2, x8, x13, x142, x143, x144 => if x144 < x143 then (if 0 ≤ x144 then (if x144 < (x142.length : Int) then (if x144 < (x8.length : Int) then (if 0 ≤ x2 then (if x2 < ((rd_L2 x8 x144).length : Int) then (if x13.length < 17592186044416 then (impl_ChangeFrom.l3 k (wrap64 (x2 - (wrap64 ((rd (rd_L2 x8 x144) x2) * (rd x142 x144))))) x8 (x13 ++ [rd (rd_L2 x8 x144) x2]) x142 x143 (wrap64 (x144 + 1))) else (none)) else (none)) else (none)) else (none)) else (none)) else (none)) else (some (x13, true))
end
def impl_ChangeFrom.f (k : Nat) (l0 : List Int) (l1 : List Int) (a2 : Int) : Option (List Int × Bool) := (impl_isPurse.f k l0 l1 a2).bind fun t263 => (if t263 = true then (if 0 ≤ (wrap64 ((l0.length : Int) + 1)) then (if (wrap64 ((l0.length : Int) + 1) : Int).toNat ≤ 11728124029610 then (if 0 ≤ (wrap64 (a2 + 1)) then (if (wrap64 (a2 + 1) : Int).toNat ≤ 35184372088832 then ((some (List.replicate (wrap64 (a2 + 1) : Int).toNat 0 : List Int)).bind fun y267 => (impl_ChangeFrom.l0 k l0 l1 a2 (List.replicate (wrap64 ((l0.length : Int) + 1) : Int).toNat []) y267 (y267.length : Int) 0)) else (none)) else (none)) else (none)) else (none)) else (some (([] : List Int), false)))
def impl_ChangeFrom.T22 : Bool × List (List Nat × List Nat) := (true, [([], []), ([], []), ([], []), ([1, 2], [1, 2]), ([3], [3]), ([0, 4], [0, 4]), ([5], [5]), ([6], [6]), ([6], [6]), ([7, 8, 6], [6, 7, 8]), ([9, 6], [6, 9]), ([6], [6]), ([6], [6]), ([6], [6]), ([12, 13, 6], [6, 12, 13]), ([14, 6], [6, 14]), ([11, 15, 6], [6, 11, 15]), ([10, 16, 6], [6, 10, 16]), ([17, 6], [6, 17]), ([6], [6]), ([6], [6]), ([19, 20, 6], [6, 19, 20]), ([21, 6], [6, 21]), ([18, 22, 6], [6, 18, 22]), ([6, 23], [6, 23]), ([24, 6], [24])])
def impl_ChangeFrom.B22 : List Nat := [0, 0, 0, 6, 14, 31, 63, 127, 127, 511, 1023, 127, 127, 127, 12415, 28799, 63615, 131071, 262143, 127, 127, 1572991, 3670143, 8388607, 16777215, 33554431]
theorem impl_ChangeFrom.tab22 : rtab .any (opsOf Try.f7 22) = impl_ChangeFrom.T22 := by kernel_rfl
theorem impl_ChangeFrom.bits22 : waitsOk impl_ChangeFrom.T22.2 impl_ChangeFrom.B22 = true := by kernel_rfl
def impl_ChangeFrom.T23 : Bool × List (List Nat × List Nat) := (true, [([], []), ([], []), ([0, 1], [0, 1]), ([2], [2]), ([], []), ([], []), ([], []), ([5, 6], [5, 6]), ([7], [7]), ([], []), ([], []), ([], []), ([10, 11], [10, 11]), ([12], [12]), ([9, 13], [9, 13]), ([8, 14], [8, 14]), ([15], [15]), ([16], [16]), ([3, 4, 0, 1, 2, 3, 4, 5, 6, 7, 8, 9, 10, 11, 12, 13, 14, 15, 16, 17], [3, 4]), ([18, 17, 0, 1, 2, 3, 4, 5, 6, 7, 8, 9, 10, 11, 12, 13, 14, 15, 16, 17], [17, 18])])
def impl_ChangeFrom.B23 : List Nat := [0, 0, 3, 7, 0, 0, 0, 96, 224, 0, 0, 0, 3072, 7168, 15872, 32736, 65504, 131040, 262143, 524287]
theorem impl_ChangeFrom.tab23 : rtab .any (opsOf Try.f7 23) = impl_ChangeFrom.T23 := by kernel_rfl
theorem impl_ChangeFrom.bits23 : waitsOk impl_ChangeFrom.T23.2 impl_ChangeFrom.B23 = true := by kernel_rfl
theorem impl_ChangeFrom.calls (k : Nat) (A0 : Option Addr) (c0 : Nat) (l0 : List Int) (A1 : Option Addr) (c1 : Nat) (l1 : List Int) (a2 : Int) (r1 : List Int) (r2 : Bool) (w : World) (hr0 : Kd.C (Kd.int .i64) w A0 l0.length l0) (hc0 : l0.length ≤ c0) (hr1 : Kd.C (Kd.int .i64) w A1 l1.length l1) (hc1 : l1.length ≤ c1) (h : impl_ChangeFrom.f k l0 l1 a2 = some (r1, r2)) :
 Calls Try.prog 7 #[.slice A0 l0.length c0, .slice A1 l1.length c1, .int .i64 a2] w fun e w' => ∃ v0_ : Value, e = .returned (.tuple #[v0_, .bool r2]) ∧ Kd.R (Kd.int .i64) 3 w' w.heap.size (fun _ => True) v0_ r1 ∧ Below w.heap.size w w' := by
 have HR0 := Aside0.mk hr0
 have HC0 := Aside0.mk hc0
 clear hr0 hc0
 have HR1 := Aside0.mk hr1
 have HC1 := Aside0.mk hc1
 clear hr1 hc1
 have HB := Aside0.mk (Below.refl w.heap.size w)
 have H := h; unfold impl_ChangeFrom.f at H
 clear h
 replace H := Option.bind_eq_some_iff.mp H
 obtain ⟨t263, A40, H⟩ := H
 have A4 := Aside0.mk A40
 clear A40
 by_cases c5 : t263 = true
 · subst c5
   have H1 : (if 0 ≤ (wrap64 ((l0.length : Int) + 1)) then (if (wrap64 ((l0.length : Int) + 1) : Int).toNat ≤ 11728124029610 then (if 0 ≤ (wrap64 (a2 + 1)) then (if (wrap64 (a2 + 1) : Int).toNat ≤ 35184372088832 then ((some (List.replicate (wrap64 (a2 + 1) : Int).toNat 0 : List Int)).bind fun y267 => (impl_ChangeFrom.l0 k l0 l1 a2 (List.replicate (wrap64 ((l0.length : Int) + 1) : Int).toNat []) y267 (y267.length : Int) 0)) else (none)) else (none)) else (none)) else (none)) = some (r1, r2) := by rw [if_pos rfl] at H; exact H
   clear H
   have H := H1
   clear H1
   obtain ⟨ji6, hji6⟩ : ∃ j_ : Int, (wrap64 ((l0.length : Int) + 1)) = j_ := ⟨_, rfl⟩
   replace H : (if 0 ≤ (ji6) then (if (ji6 : Int).toNat ≤ 11728124029610 then (if 0 ≤ (wrap64 (a2 + 1)) then (if (wrap64 (a2 + 1) : Int).toNat ≤ 35184372088832 then ((some (List.replicate (wrap64 (a2 + 1) : Int).toNat 0 : List Int)).bind fun y267 => (impl_ChangeFrom.l0 k l0 l1 a2 (List.replicate (ji6 : Int).toNat []) y267 (y267.length : Int) 0)) else (none)) else (none)) else (none)) else (none)) = some (r1, r2) := by first | (rw [hji6] at H; exact H) | (simp only [hji6] at H ⊢; exact H)
   (try rw [hji6] at A4)
   have hji6w : (IntKind.i64.wrap ((l0.length : Int) + 1)) = ji6 := (i64_w _).trans hji6
   by_cases c7 : 0 ≤ (ji6)
   · rw [if_pos c7] at H
     have c7b0 := eq_true c7
     have c7b1 : decide (0 ≤ (ji6)) = true := decide_eq_true c7
     clear c7
     by_cases c8 : (ji6 : Int).toNat ≤ 11728124029610
     · rw [if_pos c8] at H
       have c8b0 := eq_true c8
       have c8b1 : decide ((ji6 : Int).toNat ≤ 11728124029610) = true := decide_eq_true c8
       clear c8
       obtain ⟨y264, hy264⟩ : ∃ y_ : List (List Int), y_ = (List.replicate (ji6 : Int).toNat []) := ⟨_, rfl⟩
       replace H : (if 0 ≤ (wrap64 (a2 + 1)) then (if (wrap64 (a2 + 1) : Int).toNat ≤ 35184372088832 then ((some (List.replicate (wrap64 (a2 + 1) : Int).toNat 0 : List Int)).bind fun y267 => (impl_ChangeFrom.l0 k l0 l1 a2 y264 y267 (y267.length : Int) 0)) else (none)) else (none)) = some (r1, r2) := by first | (rw [hy264]; with_reducible exact H) | (have H2_ := (Option.bind_some _ _).symm.trans H; rw [hy264]; with_reducible exact H2_) | (have H2_ := (Option.bind_some _ _).symm.trans H; with_reducible exact H2_) | with_reducible exact H | (rw [hy264]; exact H) | exact H
       have Ny264 := Aside0.mk hy264
       clear hy264
       obtain ⟨ji9, hji9⟩ : ∃ j_ : Int, (wrap64 (a2 + 1)) = j_ := ⟨_, rfl⟩
       replace H : (if 0 ≤ (ji9) then (if (ji9 : Int).toNat ≤ 35184372088832 then ((some (List.replicate (ji9 : Int).toNat 0 : List Int)).bind fun y267 => (impl_ChangeFrom.l0 k l0 l1 a2 y264 y267 (y267.length : Int) 0)) else (none)) else (none)) = some (r1, r2) := by first | (rw [hji9] at H; exact H) | (simp only [hji9] at H ⊢; exact H)
       (try rw [hji9] at A4)
       have hji9w : (IntKind.i64.wrap (a2 + 1)) = ji9 := (i64_w _).trans hji9
       by_cases c10 : 0 ≤ (ji9)
       · rw [if_pos c10] at H
         have c10b0 := eq_true c10
         have c10b1 : decide (0 ≤ (ji9)) = true := decide_eq_true c10
         clear c10
         by_cases c11 : (ji9 : Int).toNat ≤ 35184372088832
         · rw [if_pos c11] at H
           have c11b0 := eq_true c11
           have c11b1 : decide ((ji9 : Int).toNat ≤ 35184372088832) = true := decide_eq_true c11
           clear c11
           obtain ⟨y267, hy267⟩ : ∃ y_ : List Int, y_ = (List.replicate (ji9 : Int).toNat 0) := ⟨_, rfl⟩
           replace H : (impl_ChangeFrom.l0 k l0 l1 a2 y264 y267 (y267.length : Int) 0) = some (r1, r2) := by first | (rw [hy267]; with_reducible exact H) | (have H2_ := (Option.bind_some _ _).symm.trans H; rw [hy267]; with_reducible exact H2_) | (have H2_ := (Option.bind_some _ _).symm.trans H; with_reducible exact H2_) | with_reducible exact H | (rw [hy267]; exact H) | exact H
           have Ny267 := Aside0.mk hy267
           clear hy267
           have H' := Aside0.mk H
           clear H
           go_enter Try.func7, Try.ntmps7
           go_wp2_with (first | (refine Gl 20 #[.slice A0 l0.length c0, .slice A1 l1.length c1, .int .i64 a2] Try.func52 ?_; (with_reducible refine (impl_isPurse.calls k _ _ l0 _ _ l1 a2 true _ (Cm HR0.out) HC0.out (Cm HR1.out) HC1.out A4.out).mono ?_); rintro e w12 ⟨rfl, hb⟩; refine ⟨_, rfl, ?_⟩; replace HB := Aside0.mk (below_step Ub hb); clear hb) | ((with_reducible refine gate_dst (N := 25) rfl ?_); refine Kd.S_make (Kd.slice 3 (Kd.int .i64)) _ 24 rfl (N := 25) rfl 46 _ _ rfl ji6 rfl rfl Try.underlying46 (.slice none 0 0) 24 info24 rfl (by decide) (by omega) [] (ok := fun _ => True) (okp := fun _ => True) ⟨_, rfl, Kd.R_nil _ _ _ _ _⟩ (fun _ hk => hk) trivial (Oa) (Nat.le_trans (Nat.mul_le_mul_right _ (Oa : ji6.toNat ≤ 11728124029610)) (by omega)) (Below.refl _ _) (Nat.le_refl _) ?_; intro v265 w13 ho14 hb hg_ hnew_; clear hg_ hnew_; (first | rw [← Ny264.out] at ho14 | (simp only [Int.reduceToNat] at ho14; rw [← Ny264.out] at ho14)); have HO266 := Aside0.mk (Kd.S_lower ho14 (below_size Ub)); replace HB := Aside0.mk (below_step Ub hb); clear hb ho14) | ((with_reducible refine gate_dst (N := 28) rfl ?_); refine Kd.R_make (Kd.int .i64) _ 3 rfl (N := 28) rfl 24 _ _ rfl ji9 rfl rfl Try.underlying24 (.int .i64 0) 8 info3 rfl (by decide) (by omega) 0 (ok := fun _ => True) (okp := fun _ => True) rfl (fun _ hk => hk) trivial (Oa) (Nat.le_trans (Nat.mul_le_mul_right _ (Oa : ji9.toNat ≤ 35184372088832)) (by omega)) (Below.refl _ _) (Nat.le_refl _) ?_; intro v268 w15 ho16 hb hg_ hnew_; clear hg_ hnew_; (first | rw [← Ny267.out] at ho16 | (simp only [Int.reduceToNat] at ho16; rw [← Ny267.out] at ho16)); replace HO266 := Aside0.mk (Kd.S_elder' (Sm HO266.out) (Kd.R_base ho16) hb); have HO269 := Aside0.mk (Kd.R_lower ho16 (below_size Ub)); replace HB := Aside0.mk (below_step Ub hb); clear hb ho16; obtain ⟨Ao17, co17, eo17⟩ := Kd.R_slice HO269.out; subst eo17))
           go_loopg [31] k (fun kq v31 w' => ∃ (x9_1 : List Int) (x31_1 : Int), v31 = .int .i64 x31_1 ∧ Aside0 (impl_ChangeFrom.l0 kq l0 l1 a2 y264 x9_1 (y267.length : Int) x31_1 = some (r1, r2)) ∧ Aside0 (kq ≤ k) ∧ Aside0 (Kd.S (Kd.slice 3 (Kd.int .i64)) 24 w' w.heap.size (fun k_ => some k_ ≠ ((.slice Ao17 y267.length co17) : Value).ownBlock) v265 y264) ∧ Aside0 (Kd.R (Kd.int .i64) 3 w' w.heap.size (fun _ => True) (.slice Ao17 y267.length co17) x9_1) ∧ Aside0 (Below w.heap.size w w'))
           case atStart => exact ⟨(y267), (0), Rs, H', ⟨Nat.le_refl _⟩, ⟨by (with_reducible repeat (first | apply Kd.S_alloc | apply Kd.S_drewN | apply Kd.S_drew)); exact Kd.S_mono HO266.out (fun _ hk => hk.2)⟩, ⟨Rm HO269.out⟩, ⟨Ub⟩⟩
           case round =>
            clear H'
            try clear c1
            try clear c5
            try clear c7
            try clear c7b0
            try clear c7b1
            try clear c8
            try clear c8b0
            try clear c8b1
            try clear c10
            try clear c10b0
            try clear c10b1
            try clear c11
            try clear c11b0
            try clear c11b1
            obtain ⟨x9_1, x31_1, rfl, HA, HK1, HO_8, HO_9, HB⟩ := hrel
            have hl9_1 := (Kd.R_reads' HO_9.out).1
            rw [hl9_1] at HO_9
            (try simp only [hl9_1])
            (try simp only [hl9_1] at HO_8)
            cases gk with
            | zero => exact absurd HA.out (by simp [impl_ChangeFrom.l0])
            | succ k1 =>
             have H := HA.out
             clear HA
             simp only [impl_ChangeFrom.l0] at H
             by_cases c18 : x31_1 < (y267.length : Int)
             · rw [if_pos c18] at H
               have c18b0 : decide (x31_1 < (y267.length : Int)) = true := decide_eq_true c18
               (try (have c18b9 := c18b0; rw [hl9_1] at c18b9))
               clear c18
               by_cases c19 : 0 ≤ x31_1
               · rw [if_pos c19] at H
                 have c19b0 : decide (0 ≤ x31_1) = true := decide_eq_true c19
                 (try (have c19b9 := c19b0; rw [hl9_1] at c19b9))
                 clear c19
                 by_cases c20 : x31_1 < (x9_1.length : Int)
                 · rw [if_pos c20] at H
                   have c20b0 : decide (x31_1 < (x9_1.length : Int)) = true := decide_eq_true c20
                   (try (have c20b9 := c20b0; rw [hl9_1] at c20b9))
                   clear c20
                   obtain ⟨y270, hy270⟩ : ∃ y_ : List Int, y_ = (x9_1.set (x31_1 : Int).toNat 1001) := ⟨_, rfl⟩
                   replace H : (impl_ChangeFrom.l0 k1 l0 l1 a2 y264 y270 (y267.length : Int) (wrap64 (x31_1 + 1))) = some (r1, r2) := by first | (rw [hy270]; with_reducible exact H) | (have H2_ := (Option.bind_some _ _).symm.trans H; rw [hy270]; with_reducible exact H2_) | (have H2_ := (Option.bind_some _ _).symm.trans H; with_reducible exact H2_) | with_reducible exact H | (rw [hy270]; exact H) | exact H
                   have Ny270 := Aside0.mk hy270
                   clear hy270
                   have H' := Aside0.mk H
                   clear H
                   have p21 : 0 ≤ (x31_1 : Int) := Oa
                   have q21 : (x31_1 : Int) < ((x9_1.length : Int) : Int) := Oa
                   obtain ⟨go21, co21, eo21, gb21, gl21, cl21, HG21⟩ := Kd.R_form HO_9.out (by omega)
                   (first | cases eo21 | (injection eo21 with ea_ en_ ec_; (first | subst ea_ | (injection ea_ with ea_; subst ea_)); subst ec_; clear en_))
                   have GB21 := Aside0.mk gb21
                   have GG21 := Aside0.mk HG21
                   clear gb21 gl21 HG21
                   obtain ⟨hx21_0, hf21_0⟩ := Kd.R_celln 0 HO_9.out (x31_1 : Int) p21 q21
                   replace p21 := eq_true p21
                   replace q21 := eq_true q21
                   have HP22 := Kd.R_putg HO_9.out (x31_1 : Int) 1001
                   go_wp2_with (first | ((with_reducible refine gate_store (t := 3) (p := 36) rfl ?_); refine store_event (t := 3) (p := 36) (v := ?vo_w23) (w1 := (wr.setCell ⟨go21, (x31_1 : Int).toNat, none⟩ (.int .i64 1001))) ?hg ?ho ?hn ?hr ?_; (case ho => rfl); (case hg => rfl); (case hn => rfl); (case hr => first | (go_simp; done) | (go_simp; rfl)); intro w23 hw; have hg : wr.grownBy w23 (some go21) := (by rw [hw]; exact HP22.2); have hp_ : Kd.R (Kd.int .i64) 3 w23 w.heap.size (fun _ => True) (.slice (some ⟨go21, 0, none⟩) x9_1.length co17) y270 := (by rw [hw, Ny270.out]; exact HP22.1); clear HP22; replace HO_8 := Aside0.mk (Kd.S_after (v := (.slice (some ⟨go21, 0, none⟩) x9_1.length co17)) (v1 := (.slice (some ⟨go21, 0, none⟩) x9_1.length co17)) (ok := (fun _ => True)) (by (with_reducible repeat (first | apply Kd.S_alloc | apply Kd.S_drewN | apply Kd.S_drew)); exact Kd.S_mono HO_8.out (fun _ hk => ⟨trivial, hk⟩)) hg (.inl rfl)); replace HO_9 := Aside0.mk (hp_); replace HB := Aside0.mk ((by rw [hw]; exact below_set (HB.out) GB21.out : Below w.heap.size w w23)); clear hg hw hp_))
                   (try simp only [← hl9_1])
                   go_roundg k1
                   case measure => have := HK1.out; omega
                   case rel => exact ⟨(y270), (wrap64 (x31_1 + 1)), Rs, H', ⟨by have := HK1.out; omega⟩, ⟨by (try simp only [hl9_1]); (with_reducible repeat (first | apply Kd.S_alloc | apply Kd.S_drewN | apply Kd.S_drew)); exact Kd.S_mono HO_8.out (fun _ hk => hk.2)⟩, ⟨by (try simp only [hl9_1]); (with_reducible repeat (first | apply Kd.R_alloc | apply Kd.R_drewN | apply Kd.R_drew)); exact HO_9.out⟩, ⟨Ub⟩⟩
                 rw [if_neg c20] at H
                 exact absurd H (by simp)
               rw [if_neg c19] at H
               exact absurd H (by simp)
             rw [if_neg c18] at H
             have c18b0 : decide (x31_1 < (y267.length : Int)) = false := decide_eq_false c18
             (try rw [hl9_1] at c18b0)
             clear c18
             by_cases c24 : 0 < (x9_1.length : Int)
             · rw [if_pos c24] at H
               have c24b0 : decide (0 < (x9_1.length : Int)) = true := decide_eq_true c24
               (try (have c24b9 := c24b0; rw [hl9_1] at c24b9))
               have c24b1 : decide (0 < x9_1.length) = true := decide_eq_true (by omega)
               clear c24
               obtain ⟨y271, hy271⟩ : ∃ y_ : List Int, y_ = (x9_1.set (0 : Int).toNat 0) := ⟨_, rfl⟩
               replace H : (if 0 ≤ (l0.length : Int) then (if (l0.length : Int) < (y264.length : Int) then (impl_ChangeFrom.l1 k1 l0 l1 a2 (y264.set ((l0.length : Int) : Int).toNat y271) (wrap64 ((l0.length : Int) - 1))) else (none)) else (none)) = some (r1, r2) := by first | (rw [hy271]; with_reducible exact H) | (have H2_ := (Option.bind_some _ _).symm.trans H; rw [hy271]; with_reducible exact H2_) | (have H2_ := (Option.bind_some _ _).symm.trans H; with_reducible exact H2_) | with_reducible exact H | (rw [hy271]; exact H) | exact H
               have Ny271 := Aside0.mk hy271
               clear hy271
               by_cases c26 : 0 ≤ (l0.length : Int)
               · rw [if_pos c26] at H
                 have c26b0 : decide (0 ≤ (l0.length : Int)) = true := decide_eq_true c26
                 (try (have c26b9 := c26b0; rw [hl9_1] at c26b9))
                 have c26b1 : decide (0 ≤ l0.length) = true := decide_eq_true (by omega)
                 clear c26
                 by_cases c27 : (l0.length : Int) < (y264.length : Int)
                 · rw [if_pos c27] at H
                   have c27b0 : decide ((l0.length : Int) < (y264.length : Int)) = true := decide_eq_true c27
                   (try (have c27b9 := c27b0; rw [hl9_1] at c27b9))
                   have c27b1 : decide (l0.length < y264.length) = true := decide_eq_true (Int.ofNat_lt.mp c27)
                   clear c27
                   obtain ⟨y272, hy272⟩ : ∃ y_ : List (List Int), y_ = (y264.set ((l0.length : Int) : Int).toNat y271) := ⟨_, rfl⟩
                   replace H : (impl_ChangeFrom.l1 k1 l0 l1 a2 y272 (wrap64 ((l0.length : Int) - 1))) = some (r1, r2) := by first | (rw [hy272]; with_reducible exact H) | (have H2_ := (Option.bind_some _ _).symm.trans H; rw [hy272]; with_reducible exact H2_) | (have H2_ := (Option.bind_some _ _).symm.trans H; with_reducible exact H2_) | with_reducible exact H | (rw [hy272]; exact H) | exact H
                   have Ny272 := Aside0.mk hy272
                   clear hy272
                   have H' := Aside0.mk H
                   clear H
                   have p25 : 0 ≤ (0 : Int) := (by omega)
                   have q25 : (0 : Int) < ((x9_1.length : Int) : Int) := Oa
                   have qi25 : (0 < x9_1.length) = True := eq_true (by omega)
                   obtain ⟨go25, co25, eo25, gb25, gl25, cl25, HG25⟩ := Kd.R_form HO_9.out (by omega)
                   (first | cases eo25 | (injection eo25 with ea_ en_ ec_; (first | subst ea_ | (injection ea_ with ea_; subst ea_)); subst ec_; clear en_))
                   have GB25 := Aside0.mk gb25
                   have GG25 := Aside0.mk HG25
                   clear gb25 gl25 HG25
                   obtain ⟨hx25_0, hf25_0⟩ := Kd.R_celln 0 HO_9.out (0 : Int) p25 q25
                   (try rw [show ((0 : Int)).toNat = 0 from rfl] at hx25_0)
                   (try simp only [Nat.reduceMul, Nat.zero_mul, Nat.zero_add, Nat.reduceAdd] at hx25_0)
                   (try rw [show ((0 : Int)).toNat = 0 from rfl] at hf25_0)
                   (try simp only [Nat.reduceMul, Nat.zero_mul, Nat.zero_add, Nat.reduceAdd] at hf25_0)
                   replace p25 := eq_true p25
                   replace q25 := eq_true q25
                   have HP29 := Kd.R_putg HO_9.out (0 : Int) 0
                   go_wp2_with (first | ((with_reducible refine gate_store (t := 3) (p := 39) rfl ?_); refine store_event (t := 3) (p := 39) (v := ?vo_w30) (w1 := (wr.setCell ⟨go25, (0 : Int).toNat, none⟩ (.int .i64 0))) ?hg ?ho ?hn ?hr ?_; (case ho => rfl); (case hg => rfl); (case hn => rfl); (case hr => first | (go_simp; done) | (go_simp; rfl)); intro w30 hw; have hg : wr.grownBy w30 (some go25) := (by rw [hw]; exact HP29.2); have hp_ : Kd.R (Kd.int .i64) 3 w30 w.heap.size (fun _ => True) (.slice (some ⟨go25, 0, none⟩) x9_1.length co17) y271 := (by rw [hw, Ny271.out]; exact HP29.1); clear HP29; replace HO_8 := Aside0.mk (Kd.S_after (v := (.slice (some ⟨go25, 0, none⟩) x9_1.length co17)) (v1 := (.slice (some ⟨go25, 0, none⟩) x9_1.length co17)) (ok := (fun _ => True)) (by (with_reducible repeat (first | apply Kd.S_alloc | apply Kd.S_drewN | apply Kd.S_drew)); exact Kd.S_mono HO_8.out (fun _ hk => ⟨trivial, hk⟩)) hg (.inl rfl)); replace HO_9 := Aside0.mk (hp_); replace HB := Aside0.mk ((by rw [hw]; exact below_set (HB.out) GB25.out : Below w.heap.size w w30)); clear hg hw hp_; have p28 : 0 ≤ ((l0.length : Int) : Int) := Oa; have q28 : ((l0.length : Int) : Int) < ((y264.length : Int) : Int) := Oa; obtain ⟨go28, co28, eo28, gb28, gl28, cl28, HG28⟩ := Kd.S_form HO_8.out (by omega); (first | cases eo28 | (injection eo28 with ea_ en_ ec_; (first | subst ea_ | (injection ea_ with ea_; subst ea_)); subst ec_; clear en_)); have GB28 := Aside0.mk gb28; have GG28 := Aside0.mk HG28; clear gb28 gl28 HG28; obtain ⟨_, ce28, hcl28, hM28, hcc28, hfr28, _, _⟩ := Kd.S_elem HO_8.out [] ((l0.length : Int) : Int) p28 q28; obtain ⟨ve28_0, rfl, ge28_0⟩ := hM28; have hx28_0 := hcc28 0 _ rfl; have hf28_0 := hfr28 0; (try simp only [show ((Kd.slice 3 (Kd.int .i64))).sz = 1 from rfl, Nat.mul_one, Nat.add_zero] at hx28_0); (try simp only [show ((Kd.slice 3 (Kd.int .i64))).sz = 1 from rfl, Nat.mul_one, Nat.add_zero] at hf28_0); (try simp only [Int.toNat_natCast] at hx28_0 hf28_0); (try clear hcl28); (try clear hcc28); (try clear hfr28); (try clear hM28); replace p28 := eq_true p28; replace q28 := eq_true q28; have n_ := Aside0.mk (Kd.S_mono (ok' := (fun k_ => some k_ ≠ (.slice (some ⟨go25, 0, none⟩) x9_1.length co17 : Value).ownBlock)) HO_8.out (fun k_ hk => hk.2)); clear HO_8; have HO_8 := n_; clear n_; have HX31 := Aside0.mk (show Kd.S (Kd.slice 3 (Kd.int .i64)) 24 w30 w.heap.size (fun k_ => ((fun _ => True)) k_ ∧ ¬ ((fun k_ => some k_ = (.slice (some ⟨go25, 0, none⟩) x9_1.length co17 : Value).ownBlock)) k_) (.slice (some ⟨go28, 0, none⟩) y264.length co28) y264 from (by (with_reducible repeat (first | apply Kd.S_alloc | apply Kd.S_drewN | apply Kd.S_drew)); exact Kd.S_mono HO_8.out (fun k_ hk => ⟨trivial, fun e_ => hk e_⟩))); obtain ⟨oki31, ce31, hcl31, hM31, hcc31, hfr31, hoki31, hH31⟩ := Kd.S_elem HX31.out [] ((l0.length : Int) : Int) (Oa) (by have h_ : ((l0.length : Int) : Int) < ((y264.length : Int) : Int) := Oa; first | exact h_ | (have e_ := (Kd.S_reads' HO_8.out).1; omega) | simpa using h_); obtain ⟨ve31_0, rfl, ge31_0⟩ := hM31; have HP31 := Kd.S_seg hH31 (Oa) (by have h_ : ((l0.length : Int) : Int) < ((y264.length : Int) : Int) := Oa; first | exact h_ | (have e_ := (Kd.S_reads' HO_8.out).1; omega) | simpa using h_) (seg := [.slice (some ⟨go25, 0, none⟩) x9_1.length co17]) (j := 0) (show 1 ≤ 1 from by decide) (x' := y271) (Kd.M_row (Kd.R_mono (Kd.R_tight rfl (Kd.R_mono (ok' := fun k_ => ((fun _ => True)) k_ ∧ k_ ≠ go28) (Kd.R_apart' (HO_9.out) (Kd.S_typed HO_8.out) (by decide)) (fun k_ hk => ⟨trivial, fun e_ => (hk.2) (by rw [e_]; rfl)⟩))) (fun _ h_ => Or.inr (h_)))) (fun _ hk => hk) (fun k_ hk_ => ((Kd.R_mono (ok' := fun k_ => ((fun _ => True)) k_ ∧ k_ ≠ go28) (Kd.R_apart' (HO_9.out) (Kd.S_typed HO_8.out) (by decide)) (fun k_ hk => ⟨trivial, fun e_ => (hk.2) (by rw [e_]; rfl)⟩))).1 k_ hk_.symm); have hx31_0 := hcc31 0 _ rfl; (try simp only [show ((Kd.slice 3 (Kd.int .i64))).sz = 1 from rfl, Nat.mul_one, Nat.add_zero] at hx31_0); have hf31_0 := hfr31 0; (try simp only [show ((Kd.slice 3 (Kd.int .i64))).sz = 1 from rfl, Nat.mul_one, Nat.add_zero] at hf31_0); (try simp only [Int.toNat_natCast] at hx31_0 hf31_0); (try clear hcl31); (try clear hcc31); (try clear hfr31); (try clear hM31); (try clear hoki31); (try clear hH31); (try simp only [show ((Kd.slice 3 (Kd.int .i64))).sz = 1 from rfl, Nat.mul_one, Nat.add_zero] at HP31)) | ((with_reducible refine gate_store (t := 24) (p := 44) rfl ?_); refine store_event (t := 24) (p := 44) (v := ?vo_w32) (w1 := (w30.setCell ⟨go28, ((l0.length : Int) : Int).toNat, none⟩ (.slice (some ⟨go25, 0, none⟩) x9_1.length co17))) ?hg ?ho ?hn ?hr ?_; (case ho => rfl); (case hg => rfl); (case hn => rfl); (case hr => first | (go_simp; done) | (go_simp; rfl)); intro w32 hw; have hg : w30.grownBy w32 (some go28) := (by rw [hw]; exact HP31.2); have hp_ : Kd.S (Kd.slice 3 (Kd.int .i64)) 24 w32 w.heap.size (fun _ => True) (.slice (some ⟨go28, 0, none⟩) y264.length co28) y272 := (by rw [hw, Ny272.out]; exact HP31.1); clear HP31; replace HO_8 := Aside0.mk (hp_); replace HB := Aside0.mk ((by rw [hw]; exact below_set (HB.out) GB28.out : Below w.heap.size w w32)); clear HO_9; clear hg hw hp_))
                   go_loopg [11] k1 (fun kq v11 w' => ∃ (x8_2 : List (List Int)) (x11_2 : Int), v11 = .int .i64 x11_2 ∧ Aside0 (impl_ChangeFrom.l1 kq l0 l1 a2 x8_2 x11_2 = some (r1, r2)) ∧ Aside0 (kq ≤ k1) ∧ Aside0 (Kd.S (Kd.slice 3 (Kd.int .i64)) 24 w' w.heap.size (fun _ => True) (.slice (some ⟨go28, 0, none⟩) y264.length co28) x8_2) ∧ Aside0 (Below w.heap.size w w'))
                   case atStart => exact ⟨(y272), (wrap64 ((l0.length : Int) - 1)), Rs, H', ⟨Nat.le_refl _⟩, ⟨by (try simp only [hl9_1]); (with_reducible repeat (first | apply Kd.S_alloc | apply Kd.S_drewN | apply Kd.S_drew)); exact HO_8.out⟩, ⟨Ub⟩⟩
                   case round =>
                    clear H'
                    try clear c1
                    try clear c5
                    try clear c7
                    try clear c7b0
                    try clear c7b1
                    try clear c8
                    try clear c8b0
                    try clear c8b1
                    try clear c10
                    try clear c10b0
                    try clear c10b1
                    try clear c11
                    try clear c11b0
                    try clear c11b1
                    try clear c18
                    try clear c18b0
                    try clear c19
                    try clear c19b0
                    try clear c20
                    try clear c20b0
                    try clear p21
                    try clear q21
                    try clear c24
                    try clear c24b0
                    try clear c24b1
                    try clear p25
                    try clear q25
                    try clear qi25
                    try clear c26
                    try clear c26b0
                    try clear c26b1
                    try clear c27
                    try clear c27b0
                    try clear c27b1
                    try clear p28
                    try clear q28
                    try clear hx21_0
                    try clear hx25_0
                    try clear hx28_0
                    try clear hx31_0
                    try clear p21
                    try clear p25
                    try clear p28
                    try clear q21
                    try clear q25
                    try clear q28
                    obtain ⟨x8_2, x11_2, rfl, HA, HK2, HO_8, HB⟩ := hrel
                    have hl8_2 := (Kd.S_reads' HO_8.out).1
                    rw [hl8_2] at HO_8
                    (try simp only [hl8_2])
                    cases gk with
                    | zero => exact absurd HA.out (by simp [impl_ChangeFrom.l1])
                    | succ k2 =>
                     have H := HA.out
                     clear HA
                     simp only [impl_ChangeFrom.l1] at H
                     by_cases c33 : x11_2 ≥ 0
                     · rw [if_pos c33] at H
                       have c33b0 : decide (0 ≤ x11_2) = true := decide_eq_true c33
                       (try (have c33b9 := c33b0; rw [hl9_1] at c33b9)); (try (have c33b9 := c33b0; rw [hl8_2] at c33b9))
                       clear c33
                       obtain ⟨ji34, hji34⟩ : ∃ j_ : Int, (wrap64 (a2 + 1)) = j_ := ⟨_, rfl⟩
                       replace H : (if 0 ≤ (ji34) then (if (ji34 : Int).toNat ≤ 35184372088832 then (if 0 ≤ x11_2 then (if x11_2 < (x8_2.length : Int) then ((some (x8_2.set (x11_2 : Int).toNat (List.replicate (ji34 : Int).toNat 0) : List (List Int))).bind fun y276 => (impl_ChangeFrom.l2 k2 l0 l1 a2 y276 x11_2 ((rd_L2 y276 x11_2).length : Int) 0)) else (none)) else (none)) else (none)) else (none)) = some (r1, r2) := by first | (rw [hji34] at H; exact H) | (simp only [hji34] at H ⊢; exact H)
                       have hji34w : (IntKind.i64.wrap (a2 + 1)) = ji34 := (i64_w _).trans hji34
                       obtain rfl : ji34 = ji9 := hji34.symm.trans hji9
                       by_cases c35 : 0 ≤ (ji34)
                       · rw [if_pos c35] at H
                         have c35b0 := eq_true c35
                         have c35b1 : decide (0 ≤ (ji34)) = true := decide_eq_true c35
                         clear c35
                         by_cases c36 : (ji34 : Int).toNat ≤ 35184372088832
                         · rw [if_pos c36] at H
                           have c36b0 := eq_true c36
                           have c36b1 : decide ((ji34 : Int).toNat ≤ 35184372088832) = true := decide_eq_true c36
                           clear c36
                           obtain ⟨y273, hy273⟩ : ∃ y_ : List Int, y_ = (List.replicate (ji34 : Int).toNat 0) := ⟨_, rfl⟩
                           replace H : (if 0 ≤ x11_2 then (if x11_2 < (x8_2.length : Int) then ((some (x8_2.set (x11_2 : Int).toNat y273 : List (List Int))).bind fun y276 => (impl_ChangeFrom.l2 k2 l0 l1 a2 y276 x11_2 ((rd_L2 y276 x11_2).length : Int) 0)) else (none)) else (none)) = some (r1, r2) := by first | (rw [hy273]; with_reducible exact H) | (have H2_ := (Option.bind_some _ _).symm.trans H; rw [hy273]; with_reducible exact H2_) | (have H2_ := (Option.bind_some _ _).symm.trans H; with_reducible exact H2_) | with_reducible exact H | (rw [hy273]; exact H) | exact H
                           have Ny273 := Aside0.mk hy273
                           clear hy273
                           by_cases c37 : 0 ≤ x11_2
                           · rw [if_pos c37] at H
                             have c37b0 : decide (0 ≤ x11_2) = true := decide_eq_true c37
                             (try (have c37b9 := c37b0; rw [hl9_1] at c37b9)); (try (have c37b9 := c37b0; rw [hl8_2] at c37b9))
                             clear c37
                             by_cases c38 : x11_2 < (x8_2.length : Int)
                             · rw [if_pos c38] at H
                               have c38b0 : decide (x11_2 < (x8_2.length : Int)) = true := decide_eq_true c38
                               (try (have c38b9 := c38b0; rw [hl9_1] at c38b9)); (try (have c38b9 := c38b0; rw [hl8_2] at c38b9))
                               clear c38
                               obtain ⟨y276, hy276⟩ : ∃ y_ : List (List Int), y_ = (x8_2.set (x11_2 : Int).toNat y273) := ⟨_, rfl⟩
                               replace H : (impl_ChangeFrom.l2 k2 l0 l1 a2 y276 x11_2 ((rd_L2 y276 x11_2).length : Int) 0) = some (r1, r2) := by first | (rw [hy276]; with_reducible exact H) | (have H2_ := (Option.bind_some _ _).symm.trans H; rw [hy276]; with_reducible exact H2_) | (have H2_ := (Option.bind_some _ _).symm.trans H; with_reducible exact H2_) | with_reducible exact H | (rw [hy276]; exact H) | exact H
                               have Ny276 := Aside0.mk hy276
                               clear hy276
                               have H' := Aside0.mk H
                               clear H
                               go_wp2_with (first | ((with_reducible refine gate_dst (N := 56) rfl ?_); refine Kd.R_make (Kd.int .i64) _ 3 rfl (N := 56) rfl 24 _ _ rfl ji34 rfl rfl Try.underlying24 (.int .i64 0) 8 info3 rfl (by decide) (by omega) 0 (ok := fun _ => True) (okp := fun _ => True) rfl (fun _ hk => hk) trivial (Oa) (Nat.le_trans (Nat.mul_le_mul_right _ (Oa : ji34.toNat ≤ 35184372088832)) (by omega)) (Below.refl _ _) (Nat.le_refl _) ?_; intro v274 w40 ho41 hb hg_ hnew_; clear hg_ hnew_; (first | rw [← Ny273.out] at ho41 | (simp only [Int.reduceToNat] at ho41; rw [← Ny273.out] at ho41)); replace HO_8 := Aside0.mk (Kd.S_elder' (Sm HO_8.out) (Kd.R_base ho41) hb); have HO275 := Aside0.mk (Kd.R_lower ho41 (below_size Ub)); obtain ⟨Av274, cv274, ev274⟩ := Kd.R_slice HO275.out; subst ev274; replace HB := Aside0.mk (below_step Ub hb); clear hb ho41; have p39 : 0 ≤ (x11_2 : Int) := Oa; have q39 : (x11_2 : Int) < ((x8_2.length : Int) : Int) := Oa; obtain ⟨_, ce39, hcl39, hM39, hcc39, hfr39, _, _⟩ := Kd.S_elem HO_8.out [] (x11_2 : Int) p39 q39; obtain ⟨ve39_0, rfl, ge39_0⟩ := hM39; have hx39_0 := hcc39 0 _ rfl; have hf39_0 := hfr39 0; (try simp only [show ((Kd.slice 3 (Kd.int .i64))).sz = 1 from rfl, Nat.mul_one, Nat.add_zero] at hx39_0); (try simp only [show ((Kd.slice 3 (Kd.int .i64))).sz = 1 from rfl, Nat.mul_one, Nat.add_zero] at hf39_0); (try simp only [Int.toNat_natCast] at hx39_0 hf39_0); (try clear hcl39); (try clear hcc39); (try clear hfr39); (try clear hM39); replace p39 := eq_true p39; replace q39 := eq_true q39; have n_ := Aside0.mk (Kd.S_mono (ok' := (fun k_ => some k_ ≠ ((.slice Av274 y273.length cv274) : Value).ownBlock)) HO_8.out (fun k_ hk => hk.2)); clear HO_8; have HO_8 := n_; clear n_; have HX42 := Aside0.mk (show Kd.S (Kd.slice 3 (Kd.int .i64)) 24 w40 w.heap.size (fun k_ => ((fun _ => True)) k_ ∧ ¬ ((fun k_ => some k_ = ((.slice Av274 y273.length cv274) : Value).ownBlock)) k_) (.slice (some ⟨go28, 0, none⟩) x8_2.length co28) x8_2 from (by (with_reducible repeat (first | apply Kd.S_alloc | apply Kd.S_drewN | apply Kd.S_drew)); exact Kd.S_mono HO_8.out (fun k_ hk => ⟨trivial, fun e_ => hk e_⟩))); obtain ⟨oki42, ce42, hcl42, hM42, hcc42, hfr42, hoki42, hH42⟩ := Kd.S_elem HX42.out [] (x11_2 : Int) (Oa) (by have h_ : (x11_2 : Int) < ((x8_2.length : Int) : Int) := Oa; first | exact h_ | (have e_ := (Kd.S_reads' HO_8.out).1; omega) | simpa using h_); obtain ⟨ve42_0, rfl, ge42_0⟩ := hM42; have HP42 := Kd.S_seg hH42 (Oa) (by have h_ : (x11_2 : Int) < ((x8_2.length : Int) : Int) := Oa; first | exact h_ | (have e_ := (Kd.S_reads' HO_8.out).1; omega) | simpa using h_) (seg := [(.slice Av274 y273.length cv274)]) (j := 0) (show 1 ≤ 1 from by decide) (x' := y273) (Kd.M_row (Kd.R_mono (Kd.R_tight rfl (Kd.R_mono (ok' := fun k_ => ((fun _ => True)) k_ ∧ k_ ≠ go28) (Kd.R_apart' (HO275.out) (Kd.S_typed HO_8.out) (by decide)) (fun k_ hk => ⟨trivial, fun e_ => (hk.2) (by rw [e_]; rfl)⟩))) (fun _ h_ => Or.inr (h_)))) (fun _ hk => hk) (fun k_ hk_ => ((Kd.R_mono (ok' := fun k_ => ((fun _ => True)) k_ ∧ k_ ≠ go28) (Kd.R_apart' (HO275.out) (Kd.S_typed HO_8.out) (by decide)) (fun k_ hk => ⟨trivial, fun e_ => (hk.2) (by rw [e_]; rfl)⟩))).1 k_ hk_.symm); have hx42_0 := hcc42 0 _ rfl; (try simp only [show ((Kd.slice 3 (Kd.int .i64))).sz = 1 from rfl, Nat.mul_one, Nat.add_zero] at hx42_0); have hf42_0 := hfr42 0; (try simp only [show ((Kd.slice 3 (Kd.int .i64))).sz = 1 from rfl, Nat.mul_one, Nat.add_zero] at hf42_0); (try simp only [Int.toNat_natCast] at hx42_0 hf42_0); (try clear hcl42); (try clear hcc42); (try clear hfr42); (try clear hM42); (try clear hoki42); (try clear hH42); (try simp only [show ((Kd.slice 3 (Kd.int .i64))).sz = 1 from rfl, Nat.mul_one, Nat.add_zero] at HP42)) | ((with_reducible refine gate_store (t := 24) (p := 57) rfl ?_); refine store_event (t := 24) (p := 57) (v := ?vo_w43) (w1 := (w40.setCell ⟨go28, (x11_2 : Int).toNat, none⟩ ((.slice Av274 y273.length cv274)))) ?hg ?ho ?hn ?hr ?_; (case ho => rfl); (case hg => rfl); (case hn => rfl); (case hr => first | (go_simp; done) | (go_simp; rfl)); intro w43 hw; have hg : w40.grownBy w43 (some go28) := (by rw [hw]; exact HP42.2); have hp_ : Kd.S (Kd.slice 3 (Kd.int .i64)) 24 w43 w.heap.size (fun _ => True) (.slice (some ⟨go28, 0, none⟩) x8_2.length co28) y276 := (by rw [hw, Ny276.out]; exact HP42.1); clear HP42; replace HO_8 := Aside0.mk (hp_); replace HB := Aside0.mk ((by rw [hw]; exact below_set (HB.out) GB28.out : Below w.heap.size w w43)); clear HO275; clear hg hw hp_; have p277 : 0 ≤ (x11_2 : Int) := Oa; have q277 : x11_2 < (y276.length : Int) := (by have h_ : (x11_2 : Int) < ((x8_2.length : Int) : Int) := Oa; first | (have e_ := (Kd.S_reads' HO_8.out).1; omega) | simpa only [Ny276.out, List.length_set] using h_); have ql277 : ((x11_2 : Int) < ((x8_2.length : Int) : Int)) = True := eq_true (Oa); obtain ⟨ad277, A277_0, c277_0, e277, hx277_0, hl277_0, hi277_0⟩ := at_L2 (Kd.S_reads' HO_8.out).2.2 x11_2 p277 q277; obtain rfl : (⟨go28, 0, none⟩ : Addr) = ad277 := (by injection e277); obtain ⟨ce277, hce277, hMe277, hcc277⟩ := Kd.S_get HO_8.out [] x11_2 p277 (by first | exact q277 | exact Oa | (have e_ := (Kd.S_reads' HO_8.out).1; omega)); obtain ⟨ve277_0, rfl, ge277_0⟩ := hMe277; have hv277_0 := hcc277 0 _ rfl; rw [Nat.add_zero, show ((Kd.slice 3 (Kd.int .i64))).sz = 1 from rfl, Nat.mul_one] at hv277_0; replace hv277_0 := Option.some.inj (hv277_0.symm.trans hx277_0); rw [hv277_0] at ge277_0; have HL277_0 := Aside0.mk (show Kd.R (Kd.int .i64) 3 _ _ _ _ (rd_L2 y276 x11_2) from ge277_0); clear hv277_0 ge277_0; have HX277_0 := Aside0.mk hx277_0; clear hcc277 hce277; (first | simp only [add_plain] at hx277_0 | simp only [add_at] at hx277_0 | simp only [Addr.add, Nat.zero_add] at hx277_0 | skip); have HR277_0 := Aside0.mk hi277_0; have HC277_0 := Aside0.mk hl277_0; clear hi277_0 hl277_0; replace p277 := eq_true p277; replace q277 := eq_true q277))
                               go_loopg [63] k2 (fun kq v63 w' => ∃ (x8_3 : List (List Int)) (x63_3 : Int), v63 = .int .i64 x63_3 ∧ Aside0 (impl_ChangeFrom.l2 kq l0 l1 a2 x8_3 x11_2 ((rd_L2 y276 x11_2).length : Int) x63_3 = some (r1, r2)) ∧ Aside0 (kq ≤ k2) ∧ Aside0 (Kd.S (Kd.slice 3 (Kd.int .i64)) 24 w' w.heap.size (fun _ => True) (.slice (some ⟨go28, 0, none⟩) x8_2.length co28) x8_3) ∧ Aside0 (Below w.heap.size w w'))
                               case atStart => exact ⟨(y276), (0), Rs, H', ⟨Nat.le_refl _⟩, ⟨by (try simp only [hl9_1]); (try simp only [hl8_2]); (with_reducible repeat (first | apply Kd.S_alloc | apply Kd.S_drewN | apply Kd.S_drew)); exact HO_8.out⟩, ⟨Ub⟩⟩
                               case round =>
                                clear H'
                                try clear c1
                                try clear c5
                                try clear c7
                                try clear c7b0
                                try clear c7b1
                                try clear c8
                                try clear c8b0
                                try clear c8b1
                                try clear c10
                                try clear c10b0
                                try clear c10b1
                                try clear c11
                                try clear c11b0
                                try clear c11b1
                                try clear c18
                                try clear c18b0
                                try clear c19
                                try clear c19b0
                                try clear c20
                                try clear c20b0
                                try clear p21
                                try clear q21
                                try clear c24
                                try clear c24b0
                                try clear c24b1
                                try clear p25
                                try clear q25
                                try clear qi25
                                try clear c26
                                try clear c26b0
                                try clear c26b1
                                try clear c27
                                try clear c27b0
                                try clear c27b1
                                try clear p28
                                try clear q28
                                try clear c33
                                try clear c33b0
                                try clear c35
                                try clear c35b0
                                try clear c35b1
                                try clear c36
                                try clear c36b0
                                try clear c36b1
                                try clear c37
                                try clear c37b0
                                try clear c38
                                try clear c38b0
                                try clear p39
                                try clear q39
                                try clear hx21_0
                                try clear hx25_0
                                try clear hx277_0
                                try clear hx28_0
                                try clear hx31_0
                                try clear hx39_0
                                try clear hx42_0
                                try clear p21
                                try clear p25
                                try clear p277
                                try clear p28
                                try clear p39
                                try clear q21
                                try clear q25
                                try clear q277
                                try clear q28
                                try clear q39
                                obtain ⟨x8_3, x63_3, rfl, HA, HK3, HO_8, HB⟩ := hrel
                                have hl8_3 := (Kd.S_reads' HO_8.out).1
                                rw [hl8_3] at HO_8
                                (try simp only [hl8_3])
                                cases gk with
                                | zero => exact absurd HA.out (by simp [impl_ChangeFrom.l2])
                                | succ k3 =>
                                 have H := HA.out
                                 clear HA
                                 simp only [impl_ChangeFrom.l2] at H
                                 by_cases c44 : x63_3 < ((rd_L2 y276 x11_2).length : Int)
                                 · rw [if_pos c44] at H
                                   have c44b0 : decide (x63_3 < ((rd_L2 y276 x11_2).length : Int)) = true := decide_eq_true c44
                                   (try (have c44b9 := c44b0; rw [hl9_1] at c44b9)); (try (have c44b9 := c44b0; rw [hl8_2] at c44b9)); (try (have c44b9 := c44b0; rw [hl8_3] at c44b9))
                                   clear c44
                                   obtain ⟨ji45, hji45⟩ : ∃ j_ : Int, (wrap64 (x11_2 + 1)) = j_ := ⟨_, rfl⟩
                                   replace H : (if 0 ≤ (ji45) then (if (ji45) < (x8_3.length : Int) then (if 0 ≤ x63_3 then (if x63_3 < ((rd_L2 x8_3 (ji45)).length : Int) then (if (rd (rd_L2 x8_3 (ji45)) x63_3) < 1001 then (if 0 ≤ x11_2 then (if x11_2 < (x8_3.length : Int) then (if x63_3 < ((rd_L2 x8_3 x11_2).length : Int) then (impl_ChangeFrom.l2 k3 l0 l1 a2 (x8_3.set (x11_2 : Int).toNat ((rd_L2 x8_3 x11_2).set (x63_3 : Int).toNat 0)) x11_2 ((rd_L2 y276 x11_2).length : Int) (wrap64 (x63_3 + 1))) else (none)) else (none)) else (none)) else (if 0 ≤ x11_2 then (if x11_2 < (l0.length : Int) then (if x63_3 ≥ (rd l0 x11_2) then (if x11_2 < (x8_3.length : Int) then (if 0 ≤ (wrap64 (x63_3 - (rd l0 x11_2))) then (if (wrap64 (x63_3 - (rd l0 x11_2))) < ((rd_L2 x8_3 x11_2).length : Int) then (if x11_2 < (l1.length : Int) then (if (rd (rd_L2 x8_3 x11_2) (wrap64 (x63_3 - (rd l0 x11_2)))) < (rd l1 x11_2) then (if x63_3 < ((rd_L2 x8_3 x11_2).length : Int) then (impl_ChangeFrom.l2 k3 l0 l1 a2 (x8_3.set (x11_2 : Int).toNat ((rd_L2 x8_3 x11_2).set (x63_3 : Int).toNat (wrap64 ((rd (rd_L2 x8_3 x11_2) (wrap64 (x63_3 - (rd l0 x11_2)))) + 1)))) x11_2 ((rd_L2 y276 x11_2).length : Int) (wrap64 (x63_3 + 1))) else (none)) else (if x63_3 < ((rd_L2 x8_3 x11_2).length : Int) then (impl_ChangeFrom.l2 k3 l0 l1 a2 (x8_3.set (x11_2 : Int).toNat ((rd_L2 x8_3 x11_2).set (x63_3 : Int).toNat 1001)) x11_2 ((rd_L2 y276 x11_2).length : Int) (wrap64 (x63_3 + 1))) else (none))) else (none)) else (none)) else (none)) else (none)) else (if x11_2 < (x8_3.length : Int) then (if x63_3 < ((rd_L2 x8_3 x11_2).length : Int) then (impl_ChangeFrom.l2 k3 l0 l1 a2 (x8_3.set (x11_2 : Int).toNat ((rd_L2 x8_3 x11_2).set (x63_3 : Int).toNat 1001)) x11_2 ((rd_L2 y276 x11_2).length : Int) (wrap64 (x63_3 + 1))) else (none)) else (none))) else (none)) else (none))) else (none)) else (none)) else (none)) else (none)) = some (r1, r2) := by first | (rw [hji45] at H; exact H) | (simp only [hji45] at H ⊢; exact H)
                                   have hji45w : (IntKind.i64.wrap (x11_2 + 1)) = ji45 := (i64_w _).trans hji45
                                   by_cases c46 : 0 ≤ (ji45)
                                   · rw [if_pos c46] at H
                                     have c46b0 : decide (0 ≤ (ji45)) = true := decide_eq_true c46
                                     (try (have c46b9 := c46b0; rw [hl9_1] at c46b9)); (try (have c46b9 := c46b0; rw [hl8_2] at c46b9)); (try (have c46b9 := c46b0; rw [hl8_3] at c46b9))
                                     clear c46
                                     by_cases c47 : (ji45) < (x8_3.length : Int)
                                     · rw [if_pos c47] at H
                                       have c47b0 : decide ((ji45) < (x8_3.length : Int)) = true := decide_eq_true c47
                                       (try (have c47b9 := c47b0; rw [hl9_1] at c47b9)); (try (have c47b9 := c47b0; rw [hl8_2] at c47b9)); (try (have c47b9 := c47b0; rw [hl8_3] at c47b9))
                                       clear c47
                                       by_cases c48 : 0 ≤ x63_3
                                       · rw [if_pos c48] at H
                                         have c48b0 : decide (0 ≤ x63_3) = true := decide_eq_true c48
                                         (try (have c48b9 := c48b0; rw [hl9_1] at c48b9)); (try (have c48b9 := c48b0; rw [hl8_2] at c48b9)); (try (have c48b9 := c48b0; rw [hl8_3] at c48b9))
                                         clear c48
                                         by_cases c49 : x63_3 < ((rd_L2 x8_3 (ji45)).length : Int)
                                         · rw [if_pos c49] at H
                                           have c49b0 : decide (x63_3 < ((rd_L2 x8_3 (ji45)).length : Int)) = true := decide_eq_true c49
                                           (try (have c49b9 := c49b0; rw [hl9_1] at c49b9)); (try (have c49b9 := c49b0; rw [hl8_2] at c49b9)); (try (have c49b9 := c49b0; rw [hl8_3] at c49b9))
                                           clear c49
                                           by_cases c50 : (rd (rd_L2 x8_3 (ji45)) x63_3) < 1001
                                           · rw [if_pos c50] at H
                                             have c50b0 : decide ((rd (rd_L2 x8_3 (ji45)) x63_3) < 1001) = true := decide_eq_true c50
                                             (try (have c50b9 := c50b0; rw [hl9_1] at c50b9)); (try (have c50b9 := c50b0; rw [hl8_2] at c50b9)); (try (have c50b9 := c50b0; rw [hl8_3] at c50b9))
                                             clear c50
                                             by_cases c51 : 0 ≤ x11_2
                                             · rw [if_pos c51] at H
                                               have c51b0 : decide (0 ≤ x11_2) = true := decide_eq_true c51
                                               (try (have c51b9 := c51b0; rw [hl9_1] at c51b9)); (try (have c51b9 := c51b0; rw [hl8_2] at c51b9)); (try (have c51b9 := c51b0; rw [hl8_3] at c51b9))
                                               clear c51
                                               by_cases c52 : x11_2 < (x8_3.length : Int)
                                               · rw [if_pos c52] at H
                                                 have c52b0 : decide (x11_2 < (x8_3.length : Int)) = true := decide_eq_true c52
                                                 (try (have c52b9 := c52b0; rw [hl9_1] at c52b9)); (try (have c52b9 := c52b0; rw [hl8_2] at c52b9)); (try (have c52b9 := c52b0; rw [hl8_3] at c52b9))
                                                 clear c52
                                                 by_cases c53 : x63_3 < ((rd_L2 x8_3 x11_2).length : Int)
                                                 · rw [if_pos c53] at H
                                                   have c53b0 : decide (x63_3 < ((rd_L2 x8_3 x11_2).length : Int)) = true := decide_eq_true c53
                                                   (try (have c53b9 := c53b0; rw [hl9_1] at c53b9)); (try (have c53b9 := c53b0; rw [hl8_2] at c53b9)); (try (have c53b9 := c53b0; rw [hl8_3] at c53b9))
                                                   clear c53
                                                   obtain ⟨y281, hy281⟩ : ∃ y_ : List Int, y_ = ((rd_L2 x8_3 x11_2).set (x63_3 : Int).toNat 0) := ⟨_, rfl⟩
                                                   replace H : (impl_ChangeFrom.l2 k3 l0 l1 a2 (x8_3.set (x11_2 : Int).toNat y281) x11_2 ((rd_L2 y276 x11_2).length : Int) (wrap64 (x63_3 + 1))) = some (r1, r2) := by first | (rw [hy281]; with_reducible exact H) | (have H2_ := (Option.bind_some _ _).symm.trans H; rw [hy281]; with_reducible exact H2_) | (have H2_ := (Option.bind_some _ _).symm.trans H; with_reducible exact H2_) | with_reducible exact H | (rw [hy281]; exact H) | exact H
                                                   have Ny281 := Aside0.mk hy281
                                                   clear hy281
                                                   obtain ⟨y283, hy283⟩ : ∃ y_ : List (List Int), y_ = (x8_3.set (x11_2 : Int).toNat y281) := ⟨_, rfl⟩
                                                   replace H : (impl_ChangeFrom.l2 k3 l0 l1 a2 y283 x11_2 ((rd_L2 y276 x11_2).length : Int) (wrap64 (x63_3 + 1))) = some (r1, r2) := by first | (rw [hy283]; with_reducible exact H) | (have H2_ := (Option.bind_some _ _).symm.trans H; rw [hy283]; with_reducible exact H2_) | (have H2_ := (Option.bind_some _ _).symm.trans H; with_reducible exact H2_) | with_reducible exact H | (rw [hy283]; exact H) | exact H
                                                   have Ny283 := Aside0.mk hy283
                                                   clear hy283
                                                   have H' := Aside0.mk H
                                                   clear H
                                                   have p278 : 0 ≤ ((ji45) : Int) := Oa
                                                   have q278 : (ji45) < (x8_3.length : Int) := Oa
                                                   obtain ⟨ad278, A278_0, c278_0, e278, hx278_0, hl278_0, hi278_0⟩ := at_L2 (Kd.S_reads' HO_8.out).2.2 (ji45) p278 q278
                                                   obtain rfl : (⟨go28, 0, none⟩ : Addr) = ad278 := (by injection e278)
                                                   obtain ⟨ce278, hce278, hMe278, hcc278⟩ := Kd.S_get HO_8.out [] (ji45) p278 (by first | exact q278 | exact Oa | (have e_ := (Kd.S_reads' HO_8.out).1; omega))
                                                   obtain ⟨ve278_0, rfl, ge278_0⟩ := hMe278
                                                   have hv278_0 := hcc278 0 _ rfl
                                                   rw [Nat.add_zero, show ((Kd.slice 3 (Kd.int .i64))).sz = 1 from rfl, Nat.mul_one] at hv278_0
                                                   replace hv278_0 := Option.some.inj (hv278_0.symm.trans hx278_0)
                                                   rw [hv278_0] at ge278_0
                                                   have HL278_0 := Aside0.mk (show Kd.R (Kd.int .i64) 3 _ _ _ _ (rd_L2 x8_3 (ji45)) from ge278_0)
                                                   clear hv278_0 ge278_0
                                                   have HX278_0 := Aside0.mk hx278_0
                                                   clear hcc278 hce278
                                                   (first | simp only [add_plain] at hx278_0 | simp only [add_at] at hx278_0 | simp only [Addr.add, Nat.zero_add] at hx278_0 | skip)
                                                   have HR278_0 := Aside0.mk hi278_0
                                                   have HC278_0 := Aside0.mk hl278_0
                                                   clear hi278_0 hl278_0
                                                   replace p278 := eq_true p278
                                                   replace q278 := eq_true q278
                                                   obtain ⟨p279, q279, ad279, e279, hx279_0⟩ := Ai (by repeat (first | (with_reducible exact HR278_0.out) | (with_reducible refine Kd.C_alloc ?_ _) | (with_reducible refine Kd.C_drewN ?_ _) | (with_reducible refine Kd.C_drew ?_) | exact HR278_0.out)) x63_3
                                                   cases e279
                                                   have p280 : 0 ≤ (x11_2 : Int) := Oa
                                                   have q280 : x11_2 < (x8_3.length : Int) := Oa
                                                   obtain ⟨ad280, A280_0, c280_0, e280, hx280_0, hl280_0, hi280_0⟩ := at_L2 (Kd.S_reads' HO_8.out).2.2 x11_2 p280 q280
                                                   obtain rfl : (⟨go28, 0, none⟩ : Addr) = ad280 := (by injection e280)
                                                   obtain ⟨ce280, hce280, hMe280, hcc280⟩ := Kd.S_get HO_8.out [] x11_2 p280 (by first | exact q280 | exact Oa | (have e_ := (Kd.S_reads' HO_8.out).1; omega))
                                                   obtain ⟨ve280_0, rfl, ge280_0⟩ := hMe280
                                                   have hv280_0 := hcc280 0 _ rfl
                                                   rw [Nat.add_zero, show ((Kd.slice 3 (Kd.int .i64))).sz = 1 from rfl, Nat.mul_one] at hv280_0
                                                   replace hv280_0 := Option.some.inj (hv280_0.symm.trans hx280_0)
                                                   rw [hv280_0] at ge280_0
                                                   have HL280_0 := Aside0.mk (show Kd.R (Kd.int .i64) 3 _ _ _ _ (rd_L2 x8_3 x11_2) from ge280_0)
                                                   clear hv280_0 ge280_0
                                                   have HX280_0 := Aside0.mk hx280_0
                                                   clear hcc280 hce280
                                                   (first | simp only [add_plain] at hx280_0 | simp only [add_at] at hx280_0 | simp only [Addr.add, Nat.zero_add] at hx280_0 | skip)
                                                   have HR280_0 := Aside0.mk hi280_0
                                                   have HC280_0 := Aside0.mk hl280_0
                                                   clear hi280_0 hl280_0
                                                   replace p280 := eq_true p280
                                                   replace q280 := eq_true q280
                                                   have p54 : 0 ≤ (x63_3 : Int) := Oa
                                                   have q54 : (x63_3 : Int) < (((rd_L2 x8_3 x11_2).length : Int) : Int) := Oa
                                                   obtain ⟨go54, co54, eo54, gb54, gl54, cl54, HG54⟩ := Kd.R_form HL280_0.out (by omega)
                                                   (first | cases eo54 | (injection eo54 with ea_ en_ ec_; (first | subst ea_ | (injection ea_ with ea_; subst ea_)); subst ec_; clear en_))
                                                   have GB54 := Aside0.mk gb54
                                                   have GG54 := Aside0.mk HG54
                                                   clear gb54 gl54 HG54
                                                   obtain ⟨hx54_0, hf54_0⟩ := Kd.R_celln 0 HL280_0.out (x63_3 : Int) p54 q54
                                                   replace p54 := eq_true p54
                                                   replace q54 := eq_true q54
                                                   have hq55 : (x11_2 : Int) < (x8_3.length : Int) := (by have h_ : (x11_2 : Int) < ((x8_3.length : Int) : Int) := Oa; first | exact h_ | (have e_ := (Kd.S_reads' HO_8.out).1; omega) | simpa only [List.length_set, List.length_set] using h_)
                                                   obtain ⟨oki55, ce55, hcl55, hM55, hcc55, hok55, hbk55⟩ := Kd.S_borrow HO_8.out [] (x11_2 : Int) (Oa) hq55
                                                   obtain ⟨ve55_0, rfl, ge55_0⟩ := hM55
                                                   have hv55 := hcc55 0 _ rfl
                                                   rw [Nat.add_zero, show ((Kd.slice 3 (Kd.int .i64))).sz = 1 from rfl, Nat.mul_one] at hv55
                                                   replace hv55 := Option.some.inj (hv55.symm.trans HX280_0.out)
                                                   subst hv55
                                                   (try clear hcc55); (try clear hcl55)
                                                   replace ge55_0 := (show Kd.R (Kd.int .i64) 3 _ _ _ _ (rd_L2 x8_3 x11_2) from ge55_0)
                                                   have HP55 := Kd.R_putg ge55_0 (x63_3 : Int) 0
                                                   go_wp2_with (first | ((with_reducible refine gate_store (t := 3) (p := 87) rfl ?_); refine store_event (t := 3) (p := 87) (v := ?vo_w56) (w1 := (wr.setCell ⟨go54, (x63_3 : Int).toNat, none⟩ (.int .i64 0))) ?hg ?ho ?hn ?hr ?_; (case ho => rfl); (case hg => rfl); (case hn => rfl); (case hr => first | (go_simp; done) | (go_simp; rfl)); intro w56 hw; have hg : wr.grownBy w56 (some go54) := (by rw [hw]; exact HP55.2); have hz_ : Kd.R (Kd.int .i64) 3 w56 w.heap.size oki55 (.slice (some ⟨go54, 0, none⟩) (rd_L2 x8_3 x11_2).length c280_0) y281 := (by rw [hw, Ny281.out]; exact HP55.1); have hp_ : Kd.S (Kd.slice 3 (Kd.int .i64)) 24 w56 w.heap.size (fun _ => True) (.slice (some ⟨go28, 0, none⟩) x8_3.length co28) y283 := (by rw [Ny283.out]; exact hbk55 hg (fun k_ e_ => by injection e_ with e_; subst e_; exact ge55_0.1 _ rfl) (Kd.M_row hz_)); have hm_ := Kd.R_mono hz_ hok55; clear HP55 hbk55; replace HO_8 := Aside0.mk (hp_); replace HB := Aside0.mk ((by rw [hw]; exact below_set (HB.out) GB54.out : Below w.heap.size w w56)); have HL315 := Aside0.mk (hm_); have HC282 := Aside0.mk ((Kd.R_reads' hm_).2.1); clear HL278_0 HL280_0; clear hg hw hp_ hz_ hm_ hok55))
                                                   (try simp only [← hl8_3])
                                                   go_roundg k3
                                                   case measure => have := HK1.out; have := HK2.out; have := HK3.out; omega
                                                   case rel => exact ⟨(y283), (wrap64 (x63_3 + 1)), Rs, H', ⟨by have := HK1.out; have := HK2.out; have := HK3.out; omega⟩, ⟨by (try simp only [hl9_1]); (try simp only [hl8_2]); (try simp only [hl8_3]); (with_reducible repeat (first | apply Kd.S_alloc | apply Kd.S_drewN | apply Kd.S_drew)); exact HO_8.out⟩, ⟨Ub⟩⟩
                                                 rw [if_neg c53] at H
                                                 exact absurd H (by simp)
                                               rw [if_neg c52] at H
                                               exact absurd H (by simp)
                                             rw [if_neg c51] at H
                                             exact absurd H (by simp)
                                           rw [if_neg c50] at H
                                           have c50b0 : decide ((rd (rd_L2 x8_3 (ji45)) x63_3) < 1001) = false := decide_eq_false c50
                                           (try rw [hl8_3] at c50b0); (try rw [hl8_2] at c50b0); (try rw [hl9_1] at c50b0)
                                           clear c50
                                           by_cases c57 : 0 ≤ x11_2
                                           · rw [if_pos c57] at H
                                             have c57b0 : decide (0 ≤ x11_2) = true := decide_eq_true c57
                                             (try (have c57b9 := c57b0; rw [hl9_1] at c57b9)); (try (have c57b9 := c57b0; rw [hl8_2] at c57b9)); (try (have c57b9 := c57b0; rw [hl8_3] at c57b9))
                                             clear c57
                                             by_cases c58 : x11_2 < (l0.length : Int)
                                             · rw [if_pos c58] at H
                                               have c58b0 : decide (x11_2 < (l0.length : Int)) = true := decide_eq_true c58
                                               (try (have c58b9 := c58b0; rw [hl9_1] at c58b9)); (try (have c58b9 := c58b0; rw [hl8_2] at c58b9)); (try (have c58b9 := c58b0; rw [hl8_3] at c58b9))
                                               clear c58
                                               by_cases c59 : x63_3 ≥ (rd l0 x11_2)
                                               · rw [if_pos c59] at H
                                                 have c59b0 : decide ((rd l0 x11_2) ≤ x63_3) = true := decide_eq_true c59
                                                 (try (have c59b9 := c59b0; rw [hl9_1] at c59b9)); (try (have c59b9 := c59b0; rw [hl8_2] at c59b9)); (try (have c59b9 := c59b0; rw [hl8_3] at c59b9))
                                                 clear c59
                                                 by_cases c60 : x11_2 < (x8_3.length : Int)
                                                 · rw [if_pos c60] at H
                                                   have c60b0 : decide (x11_2 < (x8_3.length : Int)) = true := decide_eq_true c60
                                                   (try (have c60b9 := c60b0; rw [hl9_1] at c60b9)); (try (have c60b9 := c60b0; rw [hl8_2] at c60b9)); (try (have c60b9 := c60b0; rw [hl8_3] at c60b9))
                                                   clear c60
                                                   obtain ⟨ji61, hji61⟩ : ∃ j_ : Int, (wrap64 (x63_3 - (rd l0 x11_2))) = j_ := ⟨_, rfl⟩
                                                   replace H : (if 0 ≤ (ji61) then (if (ji61) < ((rd_L2 x8_3 x11_2).length : Int) then (if x11_2 < (l1.length : Int) then (if (rd (rd_L2 x8_3 x11_2) (ji61)) < (rd l1 x11_2) then (if x63_3 < ((rd_L2 x8_3 x11_2).length : Int) then (impl_ChangeFrom.l2 k3 l0 l1 a2 (x8_3.set (x11_2 : Int).toNat ((rd_L2 x8_3 x11_2).set (x63_3 : Int).toNat (wrap64 ((rd (rd_L2 x8_3 x11_2) (ji61)) + 1)))) x11_2 ((rd_L2 y276 x11_2).length : Int) (wrap64 (x63_3 + 1))) else (none)) else (if x63_3 < ((rd_L2 x8_3 x11_2).length : Int) then (impl_ChangeFrom.l2 k3 l0 l1 a2 (x8_3.set (x11_2 : Int).toNat ((rd_L2 x8_3 x11_2).set (x63_3 : Int).toNat 1001)) x11_2 ((rd_L2 y276 x11_2).length : Int) (wrap64 (x63_3 + 1))) else (none))) else (none)) else (none)) else (none)) = some (r1, r2) := by first | (rw [hji61] at H; exact H) | (simp only [hji61] at H ⊢; exact H)
                                                   have hji61w : (IntKind.i64.wrap (x63_3 - (rd l0 x11_2))) = ji61 := (i64_w _).trans hji61
                                                   by_cases c62 : 0 ≤ (ji61)
                                                   · rw [if_pos c62] at H
                                                     have c62b0 : decide (0 ≤ (ji61)) = true := decide_eq_true c62
                                                     (try (have c62b9 := c62b0; rw [hl9_1] at c62b9)); (try (have c62b9 := c62b0; rw [hl8_2] at c62b9)); (try (have c62b9 := c62b0; rw [hl8_3] at c62b9))
                                                     clear c62
                                                     by_cases c63 : (ji61) < ((rd_L2 x8_3 x11_2).length : Int)
                                                     · rw [if_pos c63] at H
                                                       have c63b0 : decide ((ji61) < ((rd_L2 x8_3 x11_2).length : Int)) = true := decide_eq_true c63
                                                       (try (have c63b9 := c63b0; rw [hl9_1] at c63b9)); (try (have c63b9 := c63b0; rw [hl8_2] at c63b9)); (try (have c63b9 := c63b0; rw [hl8_3] at c63b9))
                                                       clear c63
                                                       by_cases c64 : x11_2 < (l1.length : Int)
                                                       · rw [if_pos c64] at H
                                                         have c64b0 : decide (x11_2 < (l1.length : Int)) = true := decide_eq_true c64
                                                         (try (have c64b9 := c64b0; rw [hl9_1] at c64b9)); (try (have c64b9 := c64b0; rw [hl8_2] at c64b9)); (try (have c64b9 := c64b0; rw [hl8_3] at c64b9))
                                                         clear c64
                                                         by_cases c65 : (rd (rd_L2 x8_3 x11_2) (ji61)) < (rd l1 x11_2)
                                                         · rw [if_pos c65] at H
                                                           have c65b0 : decide ((rd (rd_L2 x8_3 x11_2) (ji61)) < (rd l1 x11_2)) = true := decide_eq_true c65
                                                           (try (have c65b9 := c65b0; rw [hl9_1] at c65b9)); (try (have c65b9 := c65b0; rw [hl8_2] at c65b9)); (try (have c65b9 := c65b0; rw [hl8_3] at c65b9))
                                                           clear c65
                                                           by_cases c66 : x63_3 < ((rd_L2 x8_3 x11_2).length : Int)
                                                           · rw [if_pos c66] at H
                                                             have c66b0 : decide (x63_3 < ((rd_L2 x8_3 x11_2).length : Int)) = true := decide_eq_true c66
                                                             (try (have c66b9 := c66b0; rw [hl9_1] at c66b9)); (try (have c66b9 := c66b0; rw [hl8_2] at c66b9)); (try (have c66b9 := c66b0; rw [hl8_3] at c66b9))
                                                             clear c66
                                                             obtain ⟨y293, hy293⟩ : ∃ y_ : List Int, y_ = ((rd_L2 x8_3 x11_2).set (x63_3 : Int).toNat (wrap64 ((rd (rd_L2 x8_3 x11_2) (ji61)) + 1))) := ⟨_, rfl⟩
                                                             replace H : (impl_ChangeFrom.l2 k3 l0 l1 a2 (x8_3.set (x11_2 : Int).toNat y293) x11_2 ((rd_L2 y276 x11_2).length : Int) (wrap64 (x63_3 + 1))) = some (r1, r2) := by first | (rw [hy293]; with_reducible exact H) | (have H2_ := (Option.bind_some _ _).symm.trans H; rw [hy293]; with_reducible exact H2_) | (have H2_ := (Option.bind_some _ _).symm.trans H; with_reducible exact H2_) | with_reducible exact H | (rw [hy293]; exact H) | exact H
                                                             have Ny293 := Aside0.mk hy293
                                                             clear hy293
                                                             obtain ⟨y295, hy295⟩ : ∃ y_ : List (List Int), y_ = (x8_3.set (x11_2 : Int).toNat y293) := ⟨_, rfl⟩
                                                             replace H : (impl_ChangeFrom.l2 k3 l0 l1 a2 y295 x11_2 ((rd_L2 y276 x11_2).length : Int) (wrap64 (x63_3 + 1))) = some (r1, r2) := by first | (rw [hy295]; with_reducible exact H) | (have H2_ := (Option.bind_some _ _).symm.trans H; rw [hy295]; with_reducible exact H2_) | (have H2_ := (Option.bind_some _ _).symm.trans H; with_reducible exact H2_) | with_reducible exact H | (rw [hy295]; exact H) | exact H
                                                             have Ny295 := Aside0.mk hy295
                                                             clear hy295
                                                             have H' := Aside0.mk H
                                                             clear H
                                                             have p278 : 0 ≤ ((ji45) : Int) := Oa
                                                             have q278 : (ji45) < (x8_3.length : Int) := Oa
                                                             obtain ⟨ad278, A278_0, c278_0, e278, hx278_0, hl278_0, hi278_0⟩ := at_L2 (Kd.S_reads' HO_8.out).2.2 (ji45) p278 q278
                                                             obtain rfl : (⟨go28, 0, none⟩ : Addr) = ad278 := (by injection e278)
                                                             obtain ⟨ce278, hce278, hMe278, hcc278⟩ := Kd.S_get HO_8.out [] (ji45) p278 (by first | exact q278 | exact Oa | (have e_ := (Kd.S_reads' HO_8.out).1; omega))
                                                             obtain ⟨ve278_0, rfl, ge278_0⟩ := hMe278
                                                             have hv278_0 := hcc278 0 _ rfl
                                                             rw [Nat.add_zero, show ((Kd.slice 3 (Kd.int .i64))).sz = 1 from rfl, Nat.mul_one] at hv278_0
                                                             replace hv278_0 := Option.some.inj (hv278_0.symm.trans hx278_0)
                                                             rw [hv278_0] at ge278_0
                                                             have HL278_0 := Aside0.mk (show Kd.R (Kd.int .i64) 3 _ _ _ _ (rd_L2 x8_3 (ji45)) from ge278_0)
                                                             clear hv278_0 ge278_0
                                                             have HX278_0 := Aside0.mk hx278_0
                                                             clear hcc278 hce278
                                                             (first | simp only [add_plain] at hx278_0 | simp only [add_at] at hx278_0 | simp only [Addr.add, Nat.zero_add] at hx278_0 | skip)
                                                             have HR278_0 := Aside0.mk hi278_0
                                                             have HC278_0 := Aside0.mk hl278_0
                                                             clear hi278_0 hl278_0
                                                             replace p278 := eq_true p278
                                                             replace q278 := eq_true q278
                                                             obtain ⟨p279, q279, ad279, e279, hx279_0⟩ := Ai (by repeat (first | (with_reducible exact HR278_0.out) | (with_reducible refine Kd.C_alloc ?_ _) | (with_reducible refine Kd.C_drewN ?_ _) | (with_reducible refine Kd.C_drew ?_) | exact HR278_0.out)) x63_3
                                                             cases e279
                                                             try go_wp2
                                                             replace HO_8 := Aside0.mk (Kd.S_drew HO_8.out); replace HL278_0 := Aside0.mk (Kd.R_drew HL278_0.out); replace HR278_0 := Aside0.mk (Kd.C_drew HR278_0.out); replace HB := Aside0.mk (below_drew1 HB.out)
                                                             have p284 : 0 ≤ (x11_2 : Int) := Oa
                                                             have q284 : x11_2 < (l0.length : Int) := Oa
                                                             obtain ⟨ad284, e284, hx284_0⟩ := Kd.at_int HR0.out x11_2 p284 q284
                                                             have hw284_0 := hx284_0
                                                             cases e284
                                                             replace hx284_0 := (HB.out.cell (World.block_lt_of_cell? w _ hx284_0)).trans hx284_0
                                                             replace p284 := eq_true p284
                                                             replace q284 := eq_true q284
                                                             have p285 : 0 ≤ (x11_2 : Int) := Oa
                                                             have q285 : x11_2 < (x8_3.length : Int) := Oa
                                                             obtain ⟨ad285, A285_0, c285_0, e285, hx285_0, hl285_0, hi285_0⟩ := at_L2 (Kd.S_reads' HO_8.out).2.2 x11_2 p285 q285
                                                             obtain rfl : (⟨go28, 0, none⟩ : Addr) = ad285 := (by injection e285)
                                                             obtain ⟨ce285, hce285, hMe285, hcc285⟩ := Kd.S_get HO_8.out [] x11_2 p285 (by first | exact q285 | exact Oa | (have e_ := (Kd.S_reads' HO_8.out).1; omega))
                                                             obtain ⟨ve285_0, rfl, ge285_0⟩ := hMe285
                                                             have hv285_0 := hcc285 0 _ rfl
                                                             rw [Nat.add_zero, show ((Kd.slice 3 (Kd.int .i64))).sz = 1 from rfl, Nat.mul_one] at hv285_0
                                                             replace hv285_0 := Option.some.inj (hv285_0.symm.trans hx285_0)
                                                             rw [hv285_0] at ge285_0
                                                             have HL285_0 := Aside0.mk (show Kd.R (Kd.int .i64) 3 _ _ _ _ (rd_L2 x8_3 x11_2) from ge285_0)
                                                             clear hv285_0 ge285_0
                                                             have HX285_0 := Aside0.mk hx285_0
                                                             clear hcc285 hce285
                                                             (first | simp only [add_plain] at hx285_0 | simp only [add_at] at hx285_0 | simp only [Addr.add, Nat.zero_add] at hx285_0 | skip)
                                                             have HR285_0 := Aside0.mk hi285_0
                                                             have HC285_0 := Aside0.mk hl285_0
                                                             clear hi285_0 hl285_0
                                                             replace p285 := eq_true p285
                                                             replace q285 := eq_true q285
                                                             have p286 : 0 ≤ (x11_2 : Int) := Oa
                                                             have q286 : x11_2 < (l0.length : Int) := Oa
                                                             obtain ⟨ad286, e286, hx286_0⟩ := Kd.at_int HR0.out x11_2 p286 q286
                                                             have hw286_0 := hx286_0
                                                             obtain rfl : ad284 = ad286 := (by injection e286)
                                                             replace hx286_0 := (HB.out.cell (World.block_lt_of_cell? w _ hx286_0)).trans hx286_0
                                                             replace p286 := eq_true p286
                                                             replace q286 := eq_true q286
                                                             obtain ⟨p287, q287, ad287, e287, hx287_0⟩ := Ai (by repeat (first | (with_reducible exact HR285_0.out) | (with_reducible refine Kd.C_alloc ?_ _) | (with_reducible refine Kd.C_drewN ?_ _) | (with_reducible refine Kd.C_drew ?_) | exact HR285_0.out)) (ji61)
                                                             cases e287
                                                             have p288 : 0 ≤ (x11_2 : Int) := Oa
                                                             have q288 : x11_2 < (l1.length : Int) := Oa
                                                             obtain ⟨ad288, e288, hx288_0⟩ := Kd.at_int HR1.out x11_2 p288 q288
                                                             have hw288_0 := hx288_0
                                                             cases e288
                                                             replace hx288_0 := (HB.out.cell (World.block_lt_of_cell? w _ hx288_0)).trans hx288_0
                                                             replace p288 := eq_true p288
                                                             replace q288 := eq_true q288
                                                             refine start_ (n := 26) (S := fun w' => w'.cell? (ad284.add (x11_2).toNat) = some (.int .i64 (rd l0 x11_2)) ∧ w'.cell? ⟨go28, (x11_2).toNat, none⟩ = some (.slice (some ad287) (rd_L2 x8_3 x11_2).length c285_0) ∧ w'.cell? (ad284.add (x11_2).toNat) = some (.int .i64 (rd l0 x11_2)) ∧ w'.cell? (ad287.add ((ji61)).toNat) = some (.int .i64 (rd (rd_L2 x8_3 x11_2) (ji61))) ∧ w'.cell? (ad288.add (x11_2).toNat) = some (.int .i64 (rd l1 x11_2))) (ds := []) #[false, false, false, false, false, false, false, false, false, false, false, false, false, false, false, false, false, false, false, false, false, false, false, false, false, false] (by kernel_rfl) rfl rfl ⟨((HB.out.cell (World.block_lt_of_cell? w _ hw284_0)).trans hw284_0), hx285_0, ((HB.out.cell (World.block_lt_of_cell? w _ hw286_0)).trans hw286_0), hx287_0, ((HB.out.cell (World.block_lt_of_cell? w _ hw288_0)).trans hw288_0)⟩ (fun hHeld => ?_); refine with_tabW impl_ChangeFrom.tab22 impl_ChangeFrom.bits22 (fun HT_ HW_ => ?_)
                                                             generalize wr.drew = w68 at HO_8 HL278_0 HR278_0 HB HL285_0 HR285_0 HX285_0 hx284_0 hx285_0 hx286_0 hx287_0 hx288_0 hHeld ⊢
                                                             refine Pu 0 89 #[true, false, false, false, false, false, false, false, false, false, false, false, false, false, false, false, false, false, false, false, false, false, false, false, false, false] HT_.out ?_
                                                             refine Pu 1 90 #[true, true, false, false, false, false, false, false, false, false, false, false, false, false, false, false, false, false, false, false, false, false, false, false, false, false] HT_.out ?_
                                                             refine Pu 2 91 #[true, true, true, false, false, false, false, false, false, false, false, false, false, false, false, false, false, false, false, false, false, false, false, false, false, false] HT_.out ?_
                                                             refine Pu 3 92 #[true, true, true, true, false, false, false, false, false, false, false, false, false, false, false, false, false, false, false, false, false, false, false, false, false, false] HT_.out ?_
                                                             refine take_ (i := 4) (N := some 93) (v := ?_) (a' := ?_) #[true, true, true, true, true, false, false, false, false, false, false, false, false, false, false, false, false, false, false, false, false, false, false, false, false, false] rfl rfl (take_ofW HT_.out HW_.out (by kernel_rfl)) (fun _ _ _ h => h) (Or.inl ⟨by rfl, ?_⟩) hHeld ?_ ?_
                                                             rotate_left
                                                             · rintro w' ⟨s0, s1, s2, s3, s4⟩
                                                               go_simp
                                                               with_reducible rfl
                                                             rotate_left
                                                             · simp only [Act.put, List.setIfInBounds_toArray, List.set_cons_zero, List.set_cons_succ, i64_w, i32_w]
                                                               rfl
                                                             refine Pu 5 94 #[true, true, true, true, true, true, false, false, false, false, false, false, false, false, false, false, false, false, false, false, false, false, false, false, false, false] HT_.out ?_
                                                             refine Pu 6 95 #[true, true, true, true, true, true, true, false, false, false, false, false, false, false, false, false, false, false, false, false, false, false, false, false, false, false] HT_.out ?_
                                                             refine Pu 7 96 #[true, true, true, true, true, true, true, true, false, false, false, false, false, false, false, false, false, false, false, false, false, false, false, false, false, false] HT_.out ?_
                                                             refine Pu 8 97 #[true, true, true, true, true, true, true, true, true, false, false, false, false, false, false, false, false, false, false, false, false, false, false, false, false, false] HT_.out ?_
                                                             refine Pu 9 98 #[true, true, true, true, true, true, true, true, true, true, false, false, false, false, false, false, false, false, false, false, false, false, false, false, false, false] HT_.out ?_
                                                             refine Pu 11 100 #[true, true, true, true, true, true, true, true, true, true, false, true, false, false, false, false, false, false, false, false, false, false, false, false, false, false] HT_.out ?_
                                                             refine Pu 12 101 #[true, true, true, true, true, true, true, true, true, true, false, true, true, false, false, false, false, false, false, false, false, false, false, false, false, false] HT_.out ?_
                                                             refine Pu 13 102 #[true, true, true, true, true, true, true, true, true, true, false, true, true, true, false, false, false, false, false, false, false, false, false, false, false, false] HT_.out ?_
                                                             refine Pu 14 103 #[true, true, true, true, true, true, true, true, true, true, false, true, true, true, true, false, false, false, false, false, false, false, false, false, false, false] HT_.out ?_
                                                             refine Pu 19 108 #[true, true, true, true, true, true, true, true, true, true, false, true, true, true, true, false, false, false, false, true, false, false, false, false, false, false] HT_.out ?_
                                                             refine Pu 20 109 #[true, true, true, true, true, true, true, true, true, true, false, true, true, true, true, false, false, false, false, true, true, false, false, false, false, false] HT_.out ?_
                                                             refine Pu 21 110 #[true, true, true, true, true, true, true, true, true, true, false, true, true, true, true, false, false, false, false, true, true, true, false, false, false, false] HT_.out ?_
                                                             refine take_ (i := 10) (N := some 99) (v := ?_) (a' := ?_) #[true, true, true, true, true, true, true, true, true, true, true, true, true, true, true, false, false, false, false, true, true, true, false, false, false, false] rfl rfl (take_ofW HT_.out HW_.out (by kernel_rfl)) (fun _ _ _ h => h) (Or.inl ⟨by rfl, ?_⟩) hHeld ?_ ?_
                                                             rotate_left
                                                             · rintro w' ⟨s0, s1, s2, s3, s4⟩
                                                               go_simp
                                                               with_reducible rfl
                                                             rotate_left
                                                             · simp only [Act.put, List.setIfInBounds_toArray, List.set_cons_zero, List.set_cons_succ, i64_w, i32_w]
                                                               rfl
                                                             refine take_ (i := 15) (N := some 104) (v := ?_) (a' := ?_) #[true, true, true, true, true, true, true, true, true, true, true, true, true, true, true, true, false, false, false, true, true, true, false, false, false, false] rfl rfl (take_ofW HT_.out HW_.out (by kernel_rfl)) (fun _ _ _ h => h) (Or.inl ⟨by rfl, ?_⟩) hHeld ?_ ?_
                                                             rotate_left
                                                             · rintro w' ⟨s0, s1, s2, s3, s4⟩
                                                               go_simp
                                                               with_reducible rfl
                                                             rotate_left
                                                             · simp only [Act.put, List.setIfInBounds_toArray, List.set_cons_zero, List.set_cons_succ, i64_w, i32_w]
                                                               rfl
                                                             refine Pu 16 105 #[true, true, true, true, true, true, true, true, true, true, true, true, true, true, true, true, true, false, false, true, true, true, false, false, false, false] HT_.out ?_
                                                             refine Pu 17 106 #[true, true, true, true, true, true, true, true, true, true, true, true, true, true, true, true, true, true, false, true, true, true, false, false, false, false] HT_.out ?_
                                                             refine take_ (i := 18) (N := some 107) (v := ?_) (a' := ?_) #[true, true, true, true, true, true, true, true, true, true, true, true, true, true, true, true, true, true, true, true, true, true, false, false, false, false] rfl rfl (take_ofW HT_.out HW_.out (by kernel_rfl)) (fun _ _ _ h => h) (Or.inl ⟨by rfl, ?_⟩) hHeld ?_ ?_
                                                             rotate_left
                                                             · rintro w' ⟨s0, s1, s2, s3, s4⟩
                                                               go_simp
                                                               with_reducible rfl
                                                             rotate_left
                                                             · simp only [Act.put, List.setIfInBounds_toArray, List.set_cons_zero, List.set_cons_succ, i64_w, i32_w]
                                                               rfl
                                                             refine take_ (i := 22) (N := some 111) (v := ?_) (a' := ?_) #[true, true, true, true, true, true, true, true, true, true, true, true, true, true, true, true, true, true, true, true, true, true, true, false, false, false] rfl rfl (take_ofW HT_.out HW_.out (by kernel_rfl)) (fun _ _ _ h => h) (Or.inl ⟨by rfl, ?_⟩) hHeld ?_ ?_
                                                             rotate_left
                                                             · rintro w' ⟨s0, s1, s2, s3, s4⟩
                                                               go_simp
                                                               with_reducible rfl
                                                             rotate_left
                                                             · simp only [Act.put, List.setIfInBounds_toArray, List.set_cons_zero, List.set_cons_succ, i64_w, i32_w]
                                                               rfl
                                                             refine Pu 23 112 #[true, true, true, true, true, true, true, true, true, true, true, true, true, true, true, true, true, true, true, true, true, true, true, true, false, false] HT_.out ?_
                                                             refine Pu 24 113 #[true, true, true, true, true, true, true, true, true, true, true, true, true, true, true, true, true, true, true, true, true, true, true, true, true, false] HT_.out ?_
                                                             refine Pu 25 88 #[true, true, true, true, true, true, true, true, true, true, true, true, true, true, true, true, true, true, true, true, true, true, true, true, true, true] HT_.out ?_
                                                             refine done_ (done_of HT_.out (by kernel_rfl)) ?_
                                                             try go_wp2
                                                             replace HO_8 := Aside0.mk (Kd.S_drew HO_8.out); replace HL278_0 := Aside0.mk (Kd.R_drew HL278_0.out); replace HL285_0 := Aside0.mk (Kd.R_drew HL285_0.out); replace HR278_0 := Aside0.mk (Kd.C_drew HR278_0.out); replace HR285_0 := Aside0.mk (Kd.C_drew HR285_0.out); replace HB := Aside0.mk (below_drew1 HB.out)
                                                             have p289 : 0 ≤ (x11_2 : Int) := Oa
                                                             have q289 : x11_2 < (x8_3.length : Int) := Oa
                                                             obtain ⟨ad289, A289_0, c289_0, e289, hx289_0, hl289_0, hi289_0⟩ := at_L2 (Kd.S_reads' HO_8.out).2.2 x11_2 p289 q289
                                                             obtain rfl : (⟨go28, 0, none⟩ : Addr) = ad289 := (by injection e289)
                                                             obtain ⟨ce289, hce289, hMe289, hcc289⟩ := Kd.S_get HO_8.out [] x11_2 p289 (by first | exact q289 | exact Oa | (have e_ := (Kd.S_reads' HO_8.out).1; omega))
                                                             obtain ⟨ve289_0, rfl, ge289_0⟩ := hMe289
                                                             have hv289_0 := hcc289 0 _ rfl
                                                             rw [Nat.add_zero, show ((Kd.slice 3 (Kd.int .i64))).sz = 1 from rfl, Nat.mul_one] at hv289_0
                                                             replace hv289_0 := Option.some.inj (hv289_0.symm.trans hx289_0)
                                                             rw [hv289_0] at ge289_0
                                                             have HL289_0 := Aside0.mk (show Kd.R (Kd.int .i64) 3 _ _ _ _ (rd_L2 x8_3 x11_2) from ge289_0)
                                                             clear hv289_0 ge289_0
                                                             have HX289_0 := Aside0.mk hx289_0
                                                             clear hcc289 hce289
                                                             (first | simp only [add_plain] at hx289_0 | simp only [add_at] at hx289_0 | simp only [Addr.add, Nat.zero_add] at hx289_0 | skip)
                                                             have HR289_0 := Aside0.mk hi289_0
                                                             have HC289_0 := Aside0.mk hl289_0
                                                             clear hi289_0 hl289_0
                                                             replace p289 := eq_true p289
                                                             replace q289 := eq_true q289
                                                             have p290 : 0 ≤ (x11_2 : Int) := Oa
                                                             have q290 : x11_2 < (x8_3.length : Int) := Oa
                                                             obtain ⟨ad290, A290_0, c290_0, e290, hx290_0, hl290_0, hi290_0⟩ := at_L2 (Kd.S_reads' HO_8.out).2.2 x11_2 p290 q290
                                                             obtain rfl : (⟨go28, 0, none⟩ : Addr) = ad290 := (by injection e290)
                                                             obtain ⟨ce290, hce290, hMe290, hcc290⟩ := Kd.S_get HO_8.out [] x11_2 p290 (by first | exact q290 | exact Oa | (have e_ := (Kd.S_reads' HO_8.out).1; omega))
                                                             obtain ⟨ve290_0, rfl, ge290_0⟩ := hMe290
                                                             have hv290_0 := hcc290 0 _ rfl
                                                             rw [Nat.add_zero, show ((Kd.slice 3 (Kd.int .i64))).sz = 1 from rfl, Nat.mul_one] at hv290_0
                                                             replace hv290_0 := Option.some.inj (hv290_0.symm.trans hx290_0)
                                                             rw [hv290_0] at ge290_0
                                                             have HL290_0 := Aside0.mk (show Kd.R (Kd.int .i64) 3 _ _ _ _ (rd_L2 x8_3 x11_2) from ge290_0)
                                                             clear hv290_0 ge290_0
                                                             have HX290_0 := Aside0.mk hx290_0
                                                             clear hcc290 hce290
                                                             (first | simp only [add_plain] at hx290_0 | simp only [add_at] at hx290_0 | simp only [Addr.add, Nat.zero_add] at hx290_0 | skip)
                                                             have HR290_0 := Aside0.mk hi290_0
                                                             have HC290_0 := Aside0.mk hl290_0
                                                             clear hi290_0 hl290_0
                                                             replace p290 := eq_true p290
                                                             replace q290 := eq_true q290
                                                             have ea_ := Option.some.inj (hx289_0.symm.trans hx290_0)
                                                             injection ea_ with ea_ en_ ec_
                                                             subst ea_
                                                             subst ec_
                                                             clear en_
                                                             have p291 : 0 ≤ (x11_2 : Int) := Oa
                                                             have q291 : x11_2 < (l0.length : Int) := Oa
                                                             obtain ⟨ad291, e291, hx291_0⟩ := Kd.at_int HR0.out x11_2 p291 q291
                                                             have hw291_0 := hx291_0
                                                             obtain rfl : ad284 = ad291 := (by injection e291)
                                                             replace hx291_0 := (HB.out.cell (World.block_lt_of_cell? w _ hx291_0)).trans hx291_0
                                                             replace p291 := eq_true p291
                                                             replace q291 := eq_true q291
                                                             obtain ⟨p292, q292, ad292, e292, hx292_0⟩ := Ai (by repeat (first | (with_reducible exact HR290_0.out) | (with_reducible refine Kd.C_alloc ?_ _) | (with_reducible refine Kd.C_drewN ?_ _) | (with_reducible refine Kd.C_drew ?_) | exact HR290_0.out)) (ji61)
                                                             cases e292
                                                             have p67 : 0 ≤ (x63_3 : Int) := Oa
                                                             have q67 : (x63_3 : Int) < (((rd_L2 x8_3 x11_2).length : Int) : Int) := Oa
                                                             obtain ⟨go67, co67, eo67, gb67, gl67, cl67, HG67⟩ := Kd.R_form HL289_0.out (by omega)
                                                             (first | cases eo67 | (injection eo67 with ea_ en_ ec_; (first | subst ea_ | (injection ea_ with ea_; subst ea_)); subst ec_; clear en_))
                                                             have GB67 := Aside0.mk gb67
                                                             have GG67 := Aside0.mk HG67
                                                             clear gb67 gl67 HG67
                                                             (first | simp only [add_plain] at hx292_0 | skip)
                                                             obtain ⟨hx67_0, hf67_0⟩ := Kd.R_celln 0 HL289_0.out (x63_3 : Int) p67 q67
                                                             replace p67 := eq_true p67
                                                             replace q67 := eq_true q67
                                                             have hq70 : (x11_2 : Int) < (x8_3.length : Int) := (by have h_ : (x11_2 : Int) < ((x8_3.length : Int) : Int) := Oa; first | exact h_ | (have e_ := (Kd.S_reads' HO_8.out).1; omega) | simpa only [List.length_set, List.length_set] using h_)
                                                             obtain ⟨oki70, ce70, hcl70, hM70, hcc70, hok70, hbk70⟩ := Kd.S_borrow HO_8.out [] (x11_2 : Int) (Oa) hq70
                                                             obtain ⟨ve70_0, rfl, ge70_0⟩ := hM70
                                                             have hv70 := hcc70 0 _ rfl
                                                             rw [Nat.add_zero, show ((Kd.slice 3 (Kd.int .i64))).sz = 1 from rfl, Nat.mul_one] at hv70
                                                             replace hv70 := Option.some.inj (hv70.symm.trans HX289_0.out)
                                                             subst hv70
                                                             (try clear hcc70); (try clear hcl70)
                                                             replace ge70_0 := (show Kd.R (Kd.int .i64) 3 _ _ _ _ (rd_L2 x8_3 x11_2) from ge70_0)
                                                             have HP70 := Kd.R_putg ge70_0 (x63_3 : Int) (wrap64 ((rd (rd_L2 x8_3 x11_2) (ji61)) + 1))
                                                             rw [← Ny293.out] at HP70
                                                             have HS70 := hbk70 HP70.2 (fun k_ e_ => by injection e_ with e_; subst e_; exact ge70_0.1 _ rfl) (x' := y293) (Kd.M_row HP70.1)
                                                             rw [← Ny295.out] at HS70
                                                             have HQ70 := Aside0.mk HS70
                                                             clear HP70 HS70 hbk70 hok70
                                                             refine start_ (n := 20) (S := fun w' => w'.cell? ⟨go28, (x11_2).toNat, none⟩ = some (.slice (some ⟨go67, 0, none⟩) (rd_L2 x8_3 x11_2).length c289_0) ∧ w'.cell? ⟨go28, (x11_2).toNat, none⟩ = some (.slice (some ⟨go67, 0, none⟩) (rd_L2 x8_3 x11_2).length c289_0) ∧ w'.cell? (ad284.add (x11_2).toNat) = some (.int .i64 (rd l0 x11_2)) ∧ w'.cell? ⟨go67, ((ji61)).toNat, none⟩ = some (.int .i64 (rd (rd_L2 x8_3 x11_2) (ji61)))) (ds := [19]) #[false, false, false, false, false, false, false, false, false, false, false, false, false, false, false, false, false, false, false, false] (by kernel_rfl) rfl rfl ⟨hx289_0, hx290_0, ((HB.out.cell (World.block_lt_of_cell? w _ hw291_0)).trans hw291_0), hx292_0⟩ (fun hHeld => ?_); refine with_tabW impl_ChangeFrom.tab23 impl_ChangeFrom.bits23 (fun HT_ HW_ => ?_)
                                                             generalize w68.drew = w69 at HO_8 HL278_0 HL285_0 HR278_0 HR285_0 HB GG67 HL289_0 HL290_0 HQ70 HR289_0 HR290_0 HX289_0 HX290_0 hf67_0 hx289_0 hx290_0 hx291_0 hx292_0 hx67_0 hHeld ⊢
                                                             refine Pu 0 114 #[true, false, false, false, false, false, false, false, false, false, false, false, false, false, false, false, false, false, false, false] HT_.out ?_
                                                             refine Pu 1 115 #[true, true, false, false, false, false, false, false, false, false, false, false, false, false, false, false, false, false, false, false] HT_.out ?_
                                                             refine Pu 2 116 #[true, true, true, false, false, false, false, false, false, false, false, false, false, false, false, false, false, false, false, false] HT_.out ?_
                                                             refine Pu 4 118 #[true, true, true, false, true, false, false, false, false, false, false, false, false, false, false, false, false, false, false, false] HT_.out ?_
                                                             refine Pu 5 119 #[true, true, true, false, true, true, false, false, false, false, false, false, false, false, false, false, false, false, false, false] HT_.out ?_
                                                             refine Pu 6 120 #[true, true, true, false, true, true, true, false, false, false, false, false, false, false, false, false, false, false, false, false] HT_.out ?_
                                                             refine Pu 7 121 #[true, true, true, false, true, true, true, true, false, false, false, false, false, false, false, false, false, false, false, false] HT_.out ?_
                                                             refine Pu 9 123 #[true, true, true, false, true, true, true, true, false, true, false, false, false, false, false, false, false, false, false, false] HT_.out ?_
                                                             refine Pu 10 124 #[true, true, true, false, true, true, true, true, false, true, true, false, false, false, false, false, false, false, false, false] HT_.out ?_
                                                             refine Pu 11 125 #[true, true, true, false, true, true, true, true, false, true, true, true, false, false, false, false, false, false, false, false] HT_.out ?_
                                                             refine Pu 12 126 #[true, true, true, false, true, true, true, true, false, true, true, true, true, false, false, false, false, false, false, false] HT_.out ?_
                                                             refine take_ (i := 3) (N := some 117) (v := ?_) (a' := ?_) #[true, true, true, true, true, true, true, true, false, true, true, true, true, false, false, false, false, false, false, false] rfl rfl (take_ofW HT_.out HW_.out (by kernel_rfl)) (fun _ _ _ h => h) (Or.inl ⟨by rfl, ?_⟩) hHeld ?_ ?_
                                                             rotate_left
                                                             · rintro w' ⟨s0, s1, s2, s3⟩
                                                               go_simp
                                                               with_reducible rfl
                                                             rotate_left
                                                             · simp only [Act.put, List.setIfInBounds_toArray, List.set_cons_zero, List.set_cons_succ, i64_w, i32_w]
                                                               rfl
                                                             refine take_ (i := 8) (N := some 122) (v := ?_) (a' := ?_) #[true, true, true, true, true, true, true, true, true, true, true, true, true, false, false, false, false, false, false, false] rfl rfl (take_ofW HT_.out HW_.out (by kernel_rfl)) (fun _ _ _ h => h) (Or.inl ⟨by rfl, ?_⟩) hHeld ?_ ?_
                                                             rotate_left
                                                             · rintro w' ⟨s0, s1, s2, s3⟩
                                                               go_simp
                                                               with_reducible rfl
                                                             rotate_left
                                                             · simp only [Act.put, List.setIfInBounds_toArray, List.set_cons_zero, List.set_cons_succ, i64_w, i32_w]
                                                               rfl
                                                             refine take_ (i := 13) (N := some 127) (v := ?_) (a' := ?_) #[true, true, true, true, true, true, true, true, true, true, true, true, true, true, false, false, false, false, false, false] rfl rfl (take_ofW HT_.out HW_.out (by kernel_rfl)) (fun _ _ _ h => h) (Or.inl ⟨by rfl, ?_⟩) hHeld ?_ ?_
                                                             rotate_left
                                                             · rintro w' ⟨s0, s1, s2, s3⟩
                                                               go_simp
                                                               with_reducible rfl
                                                             rotate_left
                                                             · simp only [Act.put, List.setIfInBounds_toArray, List.set_cons_zero, List.set_cons_succ, i64_w, i32_w]
                                                               rfl
                                                             refine Pu 14 128 #[true, true, true, true, true, true, true, true, true, true, true, true, true, true, true, false, false, false, false, false] HT_.out ?_
                                                             refine Pu 15 129 #[true, true, true, true, true, true, true, true, true, true, true, true, true, true, true, true, false, false, false, false] HT_.out ?_
                                                             refine take_ (i := 16) (N := some 130) (v := ?_) (a' := ?_) #[true, true, true, true, true, true, true, true, true, true, true, true, true, true, true, true, true, false, false, false] rfl rfl (take_ofW HT_.out HW_.out (by kernel_rfl)) (fun _ _ _ h => h) (Or.inl ⟨by rfl, ?_⟩) hHeld ?_ ?_
                                                             rotate_left
                                                             · rintro w' ⟨s0, s1, s2, s3⟩
                                                               go_simp
                                                               with_reducible rfl
                                                             rotate_left
                                                             · simp only [Act.put, List.setIfInBounds_toArray, List.set_cons_zero, List.set_cons_succ, i64_w, i32_w]
                                                               rfl
                                                             refine Pu 17 131 #[true, true, true, true, true, true, true, true, true, true, true, true, true, true, true, true, true, true, false, false] HT_.out ?_
                                                             refine Pu 18 132 #[true, true, true, true, true, true, true, true, true, true, true, true, true, true, true, true, true, true, true, false] HT_.out ?_
                                                             refine last_ (i := 19) (N := none) #[true, true, true, true, true, true, true, true, true, true, true, true, true, true, true, true, true, true, true, true] rfl rfl (one_of HT_.out (by kernel_rfl)) (by decide) (fun K hK => ?_)
                                                             refine skip_ (w1 := ?_) (by rfl) rfl ?_ ?_
                                                             rotate_left
                                                             · go_simp
                                                               rfl
                                                             refine hK.out _ _ ?_
                                                             clear hK K
                                                             refine done_ (done_of HT_.out (by kernel_rfl)) ?_
                                                             try go_wp2
                                                             (try simp only [← hl8_3])
                                                             go_roundg k3
                                                             case measure => have := HK1.out; have := HK2.out; have := HK3.out; omega
                                                             case rel => exact ⟨(y295), (wrap64 (x63_3 + 1)), Rs, H', ⟨by have := HK1.out; have := HK2.out; have := HK3.out; omega⟩, ⟨by (try simp only [hl9_1]); (try simp only [hl8_2]); (try simp only [hl8_3]); (with_reducible repeat (first | apply Kd.S_alloc | apply Kd.S_drewN | apply Kd.S_drew)); exact HQ70.out⟩, ⟨by repeat (first | (with_reducible first | exact HB.out | apply below_alloc | apply pw_below_drewN | apply below_drew1 | refine below_set ?_ GB67.out) | exact HB.out)⟩⟩
                                                           rw [if_neg c66] at H
                                                           exact absurd H (by simp)
                                                         rw [if_neg c65] at H
                                                         have c65b0 : decide ((rd (rd_L2 x8_3 x11_2) (ji61)) < (rd l1 x11_2)) = false := decide_eq_false c65
                                                         (try rw [hl8_3] at c65b0); (try rw [hl8_2] at c65b0); (try rw [hl9_1] at c65b0)
                                                         clear c65
                                                         by_cases c72 : x63_3 < ((rd_L2 x8_3 x11_2).length : Int)
                                                         · rw [if_pos c72] at H
                                                           have c72b0 : decide (x63_3 < ((rd_L2 x8_3 x11_2).length : Int)) = true := decide_eq_true c72
                                                           (try (have c72b9 := c72b0; rw [hl9_1] at c72b9)); (try (have c72b9 := c72b0; rw [hl8_2] at c72b9)); (try (have c72b9 := c72b0; rw [hl8_3] at c72b9))
                                                           clear c72
                                                           obtain ⟨y297, hy297⟩ : ∃ y_ : List Int, y_ = ((rd_L2 x8_3 x11_2).set (x63_3 : Int).toNat 1001) := ⟨_, rfl⟩
                                                           replace H : (impl_ChangeFrom.l2 k3 l0 l1 a2 (x8_3.set (x11_2 : Int).toNat y297) x11_2 ((rd_L2 y276 x11_2).length : Int) (wrap64 (x63_3 + 1))) = some (r1, r2) := by first | (rw [hy297]; with_reducible exact H) | (have H2_ := (Option.bind_some _ _).symm.trans H; rw [hy297]; with_reducible exact H2_) | (have H2_ := (Option.bind_some _ _).symm.trans H; with_reducible exact H2_) | with_reducible exact H | (rw [hy297]; exact H) | exact H
                                                           have Ny297 := Aside0.mk hy297
                                                           clear hy297
                                                           obtain ⟨y299, hy299⟩ : ∃ y_ : List (List Int), y_ = (x8_3.set (x11_2 : Int).toNat y297) := ⟨_, rfl⟩
                                                           replace H : (impl_ChangeFrom.l2 k3 l0 l1 a2 y299 x11_2 ((rd_L2 y276 x11_2).length : Int) (wrap64 (x63_3 + 1))) = some (r1, r2) := by first | (rw [hy299]; with_reducible exact H) | (have H2_ := (Option.bind_some _ _).symm.trans H; rw [hy299]; with_reducible exact H2_) | (have H2_ := (Option.bind_some _ _).symm.trans H; with_reducible exact H2_) | with_reducible exact H | (rw [hy299]; exact H) | exact H
                                                           have Ny299 := Aside0.mk hy299
                                                           clear hy299
                                                           have H' := Aside0.mk H
                                                           clear H
                                                           have p278 : 0 ≤ ((ji45) : Int) := Oa
                                                           have q278 : (ji45) < (x8_3.length : Int) := Oa
                                                           obtain ⟨ad278, A278_0, c278_0, e278, hx278_0, hl278_0, hi278_0⟩ := at_L2 (Kd.S_reads' HO_8.out).2.2 (ji45) p278 q278
                                                           obtain rfl : (⟨go28, 0, none⟩ : Addr) = ad278 := (by injection e278)
                                                           obtain ⟨ce278, hce278, hMe278, hcc278⟩ := Kd.S_get HO_8.out [] (ji45) p278 (by first | exact q278 | exact Oa | (have e_ := (Kd.S_reads' HO_8.out).1; omega))
                                                           obtain ⟨ve278_0, rfl, ge278_0⟩ := hMe278
                                                           have hv278_0 := hcc278 0 _ rfl
                                                           rw [Nat.add_zero, show ((Kd.slice 3 (Kd.int .i64))).sz = 1 from rfl, Nat.mul_one] at hv278_0
                                                           replace hv278_0 := Option.some.inj (hv278_0.symm.trans hx278_0)
                                                           rw [hv278_0] at ge278_0
                                                           have HL278_0 := Aside0.mk (show Kd.R (Kd.int .i64) 3 _ _ _ _ (rd_L2 x8_3 (ji45)) from ge278_0)
                                                           clear hv278_0 ge278_0
                                                           have HX278_0 := Aside0.mk hx278_0
                                                           clear hcc278 hce278
                                                           (first | simp only [add_plain] at hx278_0 | simp only [add_at] at hx278_0 | simp only [Addr.add, Nat.zero_add] at hx278_0 | skip)
                                                           have HR278_0 := Aside0.mk hi278_0
                                                           have HC278_0 := Aside0.mk hl278_0
                                                           clear hi278_0 hl278_0
                                                           replace p278 := eq_true p278
                                                           replace q278 := eq_true q278
                                                           obtain ⟨p279, q279, ad279, e279, hx279_0⟩ := Ai (by repeat (first | (with_reducible exact HR278_0.out) | (with_reducible refine Kd.C_alloc ?_ _) | (with_reducible refine Kd.C_drewN ?_ _) | (with_reducible refine Kd.C_drew ?_) | exact HR278_0.out)) x63_3
                                                           cases e279
                                                           try go_wp2
                                                           replace HO_8 := Aside0.mk (Kd.S_drew HO_8.out); replace HL278_0 := Aside0.mk (Kd.R_drew HL278_0.out); replace HR278_0 := Aside0.mk (Kd.C_drew HR278_0.out); replace HB := Aside0.mk (below_drew1 HB.out)
                                                           have p284 : 0 ≤ (x11_2 : Int) := Oa
                                                           have q284 : x11_2 < (l0.length : Int) := Oa
                                                           obtain ⟨ad284, e284, hx284_0⟩ := Kd.at_int HR0.out x11_2 p284 q284
                                                           have hw284_0 := hx284_0
                                                           cases e284
                                                           replace hx284_0 := (HB.out.cell (World.block_lt_of_cell? w _ hx284_0)).trans hx284_0
                                                           replace p284 := eq_true p284
                                                           replace q284 := eq_true q284
                                                           have p285 : 0 ≤ (x11_2 : Int) := Oa
                                                           have q285 : x11_2 < (x8_3.length : Int) := Oa
                                                           obtain ⟨ad285, A285_0, c285_0, e285, hx285_0, hl285_0, hi285_0⟩ := at_L2 (Kd.S_reads' HO_8.out).2.2 x11_2 p285 q285
                                                           obtain rfl : (⟨go28, 0, none⟩ : Addr) = ad285 := (by injection e285)
                                                           obtain ⟨ce285, hce285, hMe285, hcc285⟩ := Kd.S_get HO_8.out [] x11_2 p285 (by first | exact q285 | exact Oa | (have e_ := (Kd.S_reads' HO_8.out).1; omega))
                                                           obtain ⟨ve285_0, rfl, ge285_0⟩ := hMe285
                                                           have hv285_0 := hcc285 0 _ rfl
                                                           rw [Nat.add_zero, show ((Kd.slice 3 (Kd.int .i64))).sz = 1 from rfl, Nat.mul_one] at hv285_0
                                                           replace hv285_0 := Option.some.inj (hv285_0.symm.trans hx285_0)
                                                           rw [hv285_0] at ge285_0
                                                           have HL285_0 := Aside0.mk (show Kd.R (Kd.int .i64) 3 _ _ _ _ (rd_L2 x8_3 x11_2) from ge285_0)
                                                           clear hv285_0 ge285_0
                                                           have HX285_0 := Aside0.mk hx285_0
                                                           clear hcc285 hce285
                                                           (first | simp only [add_plain] at hx285_0 | simp only [add_at] at hx285_0 | simp only [Addr.add, Nat.zero_add] at hx285_0 | skip)
                                                           have HR285_0 := Aside0.mk hi285_0
                                                           have HC285_0 := Aside0.mk hl285_0
                                                           clear hi285_0 hl285_0
                                                           replace p285 := eq_true p285
                                                           replace q285 := eq_true q285
                                                           have p286 : 0 ≤ (x11_2 : Int) := Oa
                                                           have q286 : x11_2 < (l0.length : Int) := Oa
                                                           obtain ⟨ad286, e286, hx286_0⟩ := Kd.at_int HR0.out x11_2 p286 q286
                                                           have hw286_0 := hx286_0
                                                           obtain rfl : ad284 = ad286 := (by injection e286)
                                                           replace hx286_0 := (HB.out.cell (World.block_lt_of_cell? w _ hx286_0)).trans hx286_0
                                                           replace p286 := eq_true p286
                                                           replace q286 := eq_true q286
                                                           obtain ⟨p287, q287, ad287, e287, hx287_0⟩ := Ai (by repeat (first | (with_reducible exact HR285_0.out) | (with_reducible refine Kd.C_alloc ?_ _) | (with_reducible refine Kd.C_drewN ?_ _) | (with_reducible refine Kd.C_drew ?_) | exact HR285_0.out)) (ji61)
                                                           cases e287
                                                           have p288 : 0 ≤ (x11_2 : Int) := Oa
                                                           have q288 : x11_2 < (l1.length : Int) := Oa
                                                           obtain ⟨ad288, e288, hx288_0⟩ := Kd.at_int HR1.out x11_2 p288 q288
                                                           have hw288_0 := hx288_0
                                                           cases e288
                                                           replace hx288_0 := (HB.out.cell (World.block_lt_of_cell? w _ hx288_0)).trans hx288_0
                                                           replace p288 := eq_true p288
                                                           replace q288 := eq_true q288
                                                           refine start_ (n := 26) (S := fun w' => w'.cell? (ad284.add (x11_2).toNat) = some (.int .i64 (rd l0 x11_2)) ∧ w'.cell? ⟨go28, (x11_2).toNat, none⟩ = some (.slice (some ad287) (rd_L2 x8_3 x11_2).length c285_0) ∧ w'.cell? (ad284.add (x11_2).toNat) = some (.int .i64 (rd l0 x11_2)) ∧ w'.cell? (ad287.add ((ji61)).toNat) = some (.int .i64 (rd (rd_L2 x8_3 x11_2) (ji61))) ∧ w'.cell? (ad288.add (x11_2).toNat) = some (.int .i64 (rd l1 x11_2))) (ds := []) #[false, false, false, false, false, false, false, false, false, false, false, false, false, false, false, false, false, false, false, false, false, false, false, false, false, false] (by kernel_rfl) rfl rfl ⟨((HB.out.cell (World.block_lt_of_cell? w _ hw284_0)).trans hw284_0), hx285_0, ((HB.out.cell (World.block_lt_of_cell? w _ hw286_0)).trans hw286_0), hx287_0, ((HB.out.cell (World.block_lt_of_cell? w _ hw288_0)).trans hw288_0)⟩ (fun hHeld => ?_); refine with_tabW impl_ChangeFrom.tab22 impl_ChangeFrom.bits22 (fun HT_ HW_ => ?_)
                                                           generalize wr.drew = w74 at HO_8 HL278_0 HR278_0 HB HL285_0 HR285_0 HX285_0 hx284_0 hx285_0 hx286_0 hx287_0 hx288_0 hHeld ⊢
                                                           refine Pu 0 89 #[true, false, false, false, false, false, false, false, false, false, false, false, false, false, false, false, false, false, false, false, false, false, false, false, false, false] HT_.out ?_
                                                           refine Pu 1 90 #[true, true, false, false, false, false, false, false, false, false, false, false, false, false, false, false, false, false, false, false, false, false, false, false, false, false] HT_.out ?_
                                                           refine Pu 2 91 #[true, true, true, false, false, false, false, false, false, false, false, false, false, false, false, false, false, false, false, false, false, false, false, false, false, false] HT_.out ?_
                                                           refine Pu 3 92 #[true, true, true, true, false, false, false, false, false, false, false, false, false, false, false, false, false, false, false, false, false, false, false, false, false, false] HT_.out ?_
                                                           refine take_ (i := 4) (N := some 93) (v := ?_) (a' := ?_) #[true, true, true, true, true, false, false, false, false, false, false, false, false, false, false, false, false, false, false, false, false, false, false, false, false, false] rfl rfl (take_ofW HT_.out HW_.out (by kernel_rfl)) (fun _ _ _ h => h) (Or.inl ⟨by rfl, ?_⟩) hHeld ?_ ?_
                                                           rotate_left
                                                           · rintro w' ⟨s0, s1, s2, s3, s4⟩
                                                             go_simp
                                                             with_reducible rfl
                                                           rotate_left
                                                           · simp only [Act.put, List.setIfInBounds_toArray, List.set_cons_zero, List.set_cons_succ, i64_w, i32_w]
                                                             rfl
                                                           refine Pu 5 94 #[true, true, true, true, true, true, false, false, false, false, false, false, false, false, false, false, false, false, false, false, false, false, false, false, false, false] HT_.out ?_
                                                           refine Pu 6 95 #[true, true, true, true, true, true, true, false, false, false, false, false, false, false, false, false, false, false, false, false, false, false, false, false, false, false] HT_.out ?_
                                                           refine Pu 7 96 #[true, true, true, true, true, true, true, true, false, false, false, false, false, false, false, false, false, false, false, false, false, false, false, false, false, false] HT_.out ?_
                                                           refine Pu 8 97 #[true, true, true, true, true, true, true, true, true, false, false, false, false, false, false, false, false, false, false, false, false, false, false, false, false, false] HT_.out ?_
                                                           refine Pu 9 98 #[true, true, true, true, true, true, true, true, true, true, false, false, false, false, false, false, false, false, false, false, false, false, false, false, false, false] HT_.out ?_
                                                           refine Pu 11 100 #[true, true, true, true, true, true, true, true, true, true, false, true, false, false, false, false, false, false, false, false, false, false, false, false, false, false] HT_.out ?_
                                                           refine Pu 12 101 #[true, true, true, true, true, true, true, true, true, true, false, true, true, false, false, false, false, false, false, false, false, false, false, false, false, false] HT_.out ?_
                                                           refine Pu 13 102 #[true, true, true, true, true, true, true, true, true, true, false, true, true, true, false, false, false, false, false, false, false, false, false, false, false, false] HT_.out ?_
                                                           refine Pu 14 103 #[true, true, true, true, true, true, true, true, true, true, false, true, true, true, true, false, false, false, false, false, false, false, false, false, false, false] HT_.out ?_
                                                           refine Pu 19 108 #[true, true, true, true, true, true, true, true, true, true, false, true, true, true, true, false, false, false, false, true, false, false, false, false, false, false] HT_.out ?_
                                                           refine Pu 20 109 #[true, true, true, true, true, true, true, true, true, true, false, true, true, true, true, false, false, false, false, true, true, false, false, false, false, false] HT_.out ?_
                                                           refine Pu 21 110 #[true, true, true, true, true, true, true, true, true, true, false, true, true, true, true, false, false, false, false, true, true, true, false, false, false, false] HT_.out ?_
                                                           refine take_ (i := 10) (N := some 99) (v := ?_) (a' := ?_) #[true, true, true, true, true, true, true, true, true, true, true, true, true, true, true, false, false, false, false, true, true, true, false, false, false, false] rfl rfl (take_ofW HT_.out HW_.out (by kernel_rfl)) (fun _ _ _ h => h) (Or.inl ⟨by rfl, ?_⟩) hHeld ?_ ?_
                                                           rotate_left
                                                           · rintro w' ⟨s0, s1, s2, s3, s4⟩
                                                             go_simp
                                                             with_reducible rfl
                                                           rotate_left
                                                           · simp only [Act.put, List.setIfInBounds_toArray, List.set_cons_zero, List.set_cons_succ, i64_w, i32_w]
                                                             rfl
                                                           refine take_ (i := 15) (N := some 104) (v := ?_) (a' := ?_) #[true, true, true, true, true, true, true, true, true, true, true, true, true, true, true, true, false, false, false, true, true, true, false, false, false, false] rfl rfl (take_ofW HT_.out HW_.out (by kernel_rfl)) (fun _ _ _ h => h) (Or.inl ⟨by rfl, ?_⟩) hHeld ?_ ?_
                                                           rotate_left
                                                           · rintro w' ⟨s0, s1, s2, s3, s4⟩
                                                             go_simp
                                                             with_reducible rfl
                                                           rotate_left
                                                           · simp only [Act.put, List.setIfInBounds_toArray, List.set_cons_zero, List.set_cons_succ, i64_w, i32_w]
                                                             rfl
                                                           refine Pu 16 105 #[true, true, true, true, true, true, true, true, true, true, true, true, true, true, true, true, true, false, false, true, true, true, false, false, false, false] HT_.out ?_
                                                           refine Pu 17 106 #[true, true, true, true, true, true, true, true, true, true, true, true, true, true, true, true, true, true, false, true, true, true, false, false, false, false] HT_.out ?_
                                                           refine take_ (i := 18) (N := some 107) (v := ?_) (a' := ?_) #[true, true, true, true, true, true, true, true, true, true, true, true, true, true, true, true, true, true, true, true, true, true, false, false, false, false] rfl rfl (take_ofW HT_.out HW_.out (by kernel_rfl)) (fun _ _ _ h => h) (Or.inl ⟨by rfl, ?_⟩) hHeld ?_ ?_
                                                           rotate_left
                                                           · rintro w' ⟨s0, s1, s2, s3, s4⟩
                                                             go_simp
                                                             with_reducible rfl
                                                           rotate_left
                                                           · simp only [Act.put, List.setIfInBounds_toArray, List.set_cons_zero, List.set_cons_succ, i64_w, i32_w]
                                                             rfl
                                                           refine take_ (i := 22) (N := some 111) (v := ?_) (a' := ?_) #[true, true, true, true, true, true, true, true, true, true, true, true, true, true, true, true, true, true, true, true, true, true, true, false, false, false] rfl rfl (take_ofW HT_.out HW_.out (by kernel_rfl)) (fun _ _ _ h => h) (Or.inl ⟨by rfl, ?_⟩) hHeld ?_ ?_
                                                           rotate_left
                                                           · rintro w' ⟨s0, s1, s2, s3, s4⟩
                                                             go_simp
                                                             with_reducible rfl
                                                           rotate_left
                                                           · simp only [Act.put, List.setIfInBounds_toArray, List.set_cons_zero, List.set_cons_succ, i64_w, i32_w]
                                                             rfl
                                                           refine Pu 23 112 #[true, true, true, true, true, true, true, true, true, true, true, true, true, true, true, true, true, true, true, true, true, true, true, true, false, false] HT_.out ?_
                                                           refine Pu 24 113 #[true, true, true, true, true, true, true, true, true, true, true, true, true, true, true, true, true, true, true, true, true, true, true, true, true, false] HT_.out ?_
                                                           refine Pu 25 88 #[true, true, true, true, true, true, true, true, true, true, true, true, true, true, true, true, true, true, true, true, true, true, true, true, true, true] HT_.out ?_
                                                           refine done_ (done_of HT_.out (by kernel_rfl)) ?_
                                                           have p296 : 0 ≤ (x11_2 : Int) := Oa
                                                           have q296 : x11_2 < (x8_3.length : Int) := Oa
                                                           obtain ⟨ad296, A296_0, c296_0, e296, hx296_0, hl296_0, hi296_0⟩ := at_L2 (Kd.S_reads' HO_8.out).2.2 x11_2 p296 q296
                                                           obtain rfl : (⟨go28, 0, none⟩ : Addr) = ad296 := (by injection e296)
                                                           obtain ⟨ce296, hce296, hMe296, hcc296⟩ := Kd.S_get HO_8.out [] x11_2 p296 (by first | exact q296 | exact Oa | (have e_ := (Kd.S_reads' HO_8.out).1; omega))
                                                           obtain ⟨ve296_0, rfl, ge296_0⟩ := hMe296
                                                           have hv296_0 := hcc296 0 _ rfl
                                                           rw [Nat.add_zero, show ((Kd.slice 3 (Kd.int .i64))).sz = 1 from rfl, Nat.mul_one] at hv296_0
                                                           replace hv296_0 := Option.some.inj (hv296_0.symm.trans hx296_0)
                                                           rw [hv296_0] at ge296_0
                                                           have HL296_0 := Aside0.mk (show Kd.R (Kd.int .i64) 3 _ _ _ _ (rd_L2 x8_3 x11_2) from ge296_0)
                                                           clear hv296_0 ge296_0
                                                           have HX296_0 := Aside0.mk hx296_0
                                                           clear hcc296 hce296
                                                           (first | simp only [add_plain] at hx296_0 | simp only [add_at] at hx296_0 | simp only [Addr.add, Nat.zero_add] at hx296_0 | skip)
                                                           have HR296_0 := Aside0.mk hi296_0
                                                           have HC296_0 := Aside0.mk hl296_0
                                                           clear hi296_0 hl296_0
                                                           replace p296 := eq_true p296
                                                           replace q296 := eq_true q296
                                                           have ea_ := Option.some.inj (hx285_0.symm.trans hx296_0)
                                                           injection ea_ with ea_ en_ ec_
                                                           subst ea_
                                                           subst ec_
                                                           clear en_
                                                           have p73 : 0 ≤ (x63_3 : Int) := Oa
                                                           have q73 : (x63_3 : Int) < (((rd_L2 x8_3 x11_2).length : Int) : Int) := Oa
                                                           obtain ⟨go73, co73, eo73, gb73, gl73, cl73, HG73⟩ := Kd.R_form HL296_0.out (by omega)
                                                           (first | cases eo73 | (injection eo73 with ea_ en_ ec_; (first | subst ea_ | (injection ea_ with ea_; subst ea_)); subst ec_; clear en_))
                                                           have GB73 := Aside0.mk gb73
                                                           have GG73 := Aside0.mk HG73
                                                           clear gb73 gl73 HG73
                                                           (first | simp only [add_plain] at hx287_0 | skip)
                                                           obtain ⟨hx73_0, hf73_0⟩ := Kd.R_celln 0 HL296_0.out (x63_3 : Int) p73 q73
                                                           replace p73 := eq_true p73
                                                           replace q73 := eq_true q73
                                                           have hq75 : (x11_2 : Int) < (x8_3.length : Int) := (by have h_ : (x11_2 : Int) < ((x8_3.length : Int) : Int) := Oa; first | exact h_ | (have e_ := (Kd.S_reads' HO_8.out).1; omega) | simpa only [List.length_set, List.length_set] using h_)
                                                           obtain ⟨oki75, ce75, hcl75, hM75, hcc75, hok75, hbk75⟩ := Kd.S_borrow HO_8.out [] (x11_2 : Int) (Oa) hq75
                                                           obtain ⟨ve75_0, rfl, ge75_0⟩ := hM75
                                                           have hv75 := hcc75 0 _ rfl
                                                           rw [Nat.add_zero, show ((Kd.slice 3 (Kd.int .i64))).sz = 1 from rfl, Nat.mul_one] at hv75
                                                           replace hv75 := Option.some.inj (hv75.symm.trans HX296_0.out)
                                                           subst hv75
                                                           (try clear hcc75); (try clear hcl75)
                                                           replace ge75_0 := (show Kd.R (Kd.int .i64) 3 _ _ _ _ (rd_L2 x8_3 x11_2) from ge75_0)
                                                           have HP75 := Kd.R_putg ge75_0 (x63_3 : Int) 1001
                                                           try go_wp2_with (first | ((with_reducible refine gate_store (t := 3) (p := 71) rfl ?_); refine store_event (t := 3) (p := 71) (v := ?vo_w76) (w1 := (w74.setCell ⟨go73, (x63_3 : Int).toNat, none⟩ (.int .i64 1001))) ?hg ?ho ?hn ?hr ?_; (case ho => rfl); (case hg => rfl); (case hn => rfl); (case hr => first | (go_simp; done) | (go_simp; rfl)); intro w76 hw; have hg : w74.grownBy w76 (some go73) := (by rw [hw]; exact HP75.2); have hz_ : Kd.R (Kd.int .i64) 3 w76 w.heap.size oki75 (.slice (some ⟨go73, 0, none⟩) (rd_L2 x8_3 x11_2).length c285_0) y297 := (by rw [hw, Ny297.out]; exact HP75.1); have hp_ : Kd.S (Kd.slice 3 (Kd.int .i64)) 24 w76 w.heap.size (fun _ => True) (.slice (some ⟨go28, 0, none⟩) x8_3.length co28) y299 := (by rw [Ny299.out]; exact hbk75 hg (fun k_ e_ => by injection e_ with e_; subst e_; exact ge75_0.1 _ rfl) (Kd.M_row hz_)); have hm_ := Kd.R_mono hz_ hok75; clear HP75 hbk75; replace HO_8 := Aside0.mk (hp_); replace HB := Aside0.mk ((by rw [hw]; exact below_set (HB.out) GB73.out : Below w.heap.size w w76)); have HL316 := Aside0.mk (hm_); have HC298 := Aside0.mk ((Kd.R_reads' hm_).2.1); clear HL278_0 HL285_0 HL296_0; clear hg hw hp_ hz_ hm_ hok75))
                                                           (try simp only [← hl8_3])
                                                           go_roundg k3
                                                           case measure => have := HK1.out; have := HK2.out; have := HK3.out; omega
                                                           case rel => exact ⟨(y299), (wrap64 (x63_3 + 1)), Rs, H', ⟨by have := HK1.out; have := HK2.out; have := HK3.out; omega⟩, ⟨by (try simp only [hl9_1]); (try simp only [hl8_2]); (try simp only [hl8_3]); (with_reducible repeat (first | apply Kd.S_alloc | apply Kd.S_drewN | apply Kd.S_drew)); exact HO_8.out⟩, ⟨Ub⟩⟩
                                                         rw [if_neg c72] at H
                                                         exact absurd H (by simp)
                                                       rw [if_neg c64] at H
                                                       exact absurd H (by simp)
                                                     rw [if_neg c63] at H
                                                     exact absurd H (by simp)
                                                   rw [if_neg c62] at H
                                                   exact absurd H (by simp)
                                                 rw [if_neg c60] at H
                                                 exact absurd H (by simp)
                                               rw [if_neg c59] at H
                                               have c59b0 : decide ((rd l0 x11_2) ≤ x63_3) = false := decide_eq_false c59
                                               (try rw [hl8_3] at c59b0); (try rw [hl8_2] at c59b0); (try rw [hl9_1] at c59b0)
                                               clear c59
                                               by_cases c77 : x11_2 < (x8_3.length : Int)
                                               · rw [if_pos c77] at H
                                                 have c77b0 : decide (x11_2 < (x8_3.length : Int)) = true := decide_eq_true c77
                                                 (try (have c77b9 := c77b0; rw [hl9_1] at c77b9)); (try (have c77b9 := c77b0; rw [hl8_2] at c77b9)); (try (have c77b9 := c77b0; rw [hl8_3] at c77b9))
                                                 clear c77
                                                 by_cases c78 : x63_3 < ((rd_L2 x8_3 x11_2).length : Int)
                                                 · rw [if_pos c78] at H
                                                   have c78b0 : decide (x63_3 < ((rd_L2 x8_3 x11_2).length : Int)) = true := decide_eq_true c78
                                                   (try (have c78b9 := c78b0; rw [hl9_1] at c78b9)); (try (have c78b9 := c78b0; rw [hl8_2] at c78b9)); (try (have c78b9 := c78b0; rw [hl8_3] at c78b9))
                                                   clear c78
                                                   obtain ⟨y301, hy301⟩ : ∃ y_ : List Int, y_ = ((rd_L2 x8_3 x11_2).set (x63_3 : Int).toNat 1001) := ⟨_, rfl⟩
                                                   replace H : (impl_ChangeFrom.l2 k3 l0 l1 a2 (x8_3.set (x11_2 : Int).toNat y301) x11_2 ((rd_L2 y276 x11_2).length : Int) (wrap64 (x63_3 + 1))) = some (r1, r2) := by first | (rw [hy301]; with_reducible exact H) | (have H2_ := (Option.bind_some _ _).symm.trans H; rw [hy301]; with_reducible exact H2_) | (have H2_ := (Option.bind_some _ _).symm.trans H; with_reducible exact H2_) | with_reducible exact H | (rw [hy301]; exact H) | exact H
                                                   have Ny301 := Aside0.mk hy301
                                                   clear hy301
                                                   obtain ⟨y303, hy303⟩ : ∃ y_ : List (List Int), y_ = (x8_3.set (x11_2 : Int).toNat y301) := ⟨_, rfl⟩
                                                   replace H : (impl_ChangeFrom.l2 k3 l0 l1 a2 y303 x11_2 ((rd_L2 y276 x11_2).length : Int) (wrap64 (x63_3 + 1))) = some (r1, r2) := by first | (rw [hy303]; with_reducible exact H) | (have H2_ := (Option.bind_some _ _).symm.trans H; rw [hy303]; with_reducible exact H2_) | (have H2_ := (Option.bind_some _ _).symm.trans H; with_reducible exact H2_) | with_reducible exact H | (rw [hy303]; exact H) | exact H
                                                   have Ny303 := Aside0.mk hy303
                                                   clear hy303
                                                   have H' := Aside0.mk H
                                                   clear H
                                                   have p278 : 0 ≤ ((ji45) : Int) := Oa
                                                   have q278 : (ji45) < (x8_3.length : Int) := Oa
                                                   obtain ⟨ad278, A278_0, c278_0, e278, hx278_0, hl278_0, hi278_0⟩ := at_L2 (Kd.S_reads' HO_8.out).2.2 (ji45) p278 q278
                                                   obtain rfl : (⟨go28, 0, none⟩ : Addr) = ad278 := (by injection e278)
                                                   obtain ⟨ce278, hce278, hMe278, hcc278⟩ := Kd.S_get HO_8.out [] (ji45) p278 (by first | exact q278 | exact Oa | (have e_ := (Kd.S_reads' HO_8.out).1; omega))
                                                   obtain ⟨ve278_0, rfl, ge278_0⟩ := hMe278
                                                   have hv278_0 := hcc278 0 _ rfl
                                                   rw [Nat.add_zero, show ((Kd.slice 3 (Kd.int .i64))).sz = 1 from rfl, Nat.mul_one] at hv278_0
                                                   replace hv278_0 := Option.some.inj (hv278_0.symm.trans hx278_0)
                                                   rw [hv278_0] at ge278_0
                                                   have HL278_0 := Aside0.mk (show Kd.R (Kd.int .i64) 3 _ _ _ _ (rd_L2 x8_3 (ji45)) from ge278_0)
                                                   clear hv278_0 ge278_0
                                                   have HX278_0 := Aside0.mk hx278_0
                                                   clear hcc278 hce278
                                                   (first | simp only [add_plain] at hx278_0 | simp only [add_at] at hx278_0 | simp only [Addr.add, Nat.zero_add] at hx278_0 | skip)
                                                   have HR278_0 := Aside0.mk hi278_0
                                                   have HC278_0 := Aside0.mk hl278_0
                                                   clear hi278_0 hl278_0
                                                   replace p278 := eq_true p278
                                                   replace q278 := eq_true q278
                                                   obtain ⟨p279, q279, ad279, e279, hx279_0⟩ := Ai (by repeat (first | (with_reducible exact HR278_0.out) | (with_reducible refine Kd.C_alloc ?_ _) | (with_reducible refine Kd.C_drewN ?_ _) | (with_reducible refine Kd.C_drew ?_) | exact HR278_0.out)) x63_3
                                                   cases e279
                                                   try go_wp2
                                                   replace HO_8 := Aside0.mk (Kd.S_drew HO_8.out); replace HL278_0 := Aside0.mk (Kd.R_drew HL278_0.out); replace HR278_0 := Aside0.mk (Kd.C_drew HR278_0.out); replace HB := Aside0.mk (below_drew1 HB.out)
                                                   have p284 : 0 ≤ (x11_2 : Int) := Oa
                                                   have q284 : x11_2 < (l0.length : Int) := Oa
                                                   obtain ⟨ad284, e284, hx284_0⟩ := Kd.at_int HR0.out x11_2 p284 q284
                                                   have hw284_0 := hx284_0
                                                   cases e284
                                                   replace hx284_0 := (HB.out.cell (World.block_lt_of_cell? w _ hx284_0)).trans hx284_0
                                                   replace p284 := eq_true p284
                                                   replace q284 := eq_true q284
                                                   refine start_ (n := 26) (S := fun w' => w'.cell? (ad284.add (x11_2).toNat) = some (.int .i64 (rd l0 x11_2))) (ds := []) #[false, false, false, false, false, false, false, false, false, false, false, false, false, false, false, false, false, false, false, false, false, false, false, false, false, false] (by kernel_rfl) rfl rfl (((HB.out.cell (World.block_lt_of_cell? w _ hw284_0)).trans hw284_0)) (fun hHeld => ?_); refine with_tabW impl_ChangeFrom.tab22 impl_ChangeFrom.bits22 (fun HT_ HW_ => ?_)
                                                   generalize wr.drew = w80 at HO_8 HL278_0 HR278_0 HB hx284_0 hHeld ⊢
                                                   refine Pu 0 89 #[true, false, false, false, false, false, false, false, false, false, false, false, false, false, false, false, false, false, false, false, false, false, false, false, false, false] HT_.out ?_
                                                   refine Pu 1 90 #[true, true, false, false, false, false, false, false, false, false, false, false, false, false, false, false, false, false, false, false, false, false, false, false, false, false] HT_.out ?_
                                                   refine Pu 2 91 #[true, true, true, false, false, false, false, false, false, false, false, false, false, false, false, false, false, false, false, false, false, false, false, false, false, false] HT_.out ?_
                                                   refine Pu 3 92 #[true, true, true, true, false, false, false, false, false, false, false, false, false, false, false, false, false, false, false, false, false, false, false, false, false, false] HT_.out ?_
                                                   refine take_ (i := 4) (N := some 93) (v := ?_) (a' := ?_) #[true, true, true, true, true, false, false, false, false, false, false, false, false, false, false, false, false, false, false, false, false, false, false, false, false, false] rfl rfl (take_ofW HT_.out HW_.out (by kernel_rfl)) (fun _ _ _ h => h) (Or.inl ⟨by rfl, ?_⟩) hHeld ?_ ?_
                                                   rotate_left
                                                   · intro w' s0
                                                     go_simp
                                                     with_reducible rfl
                                                   rotate_left
                                                   · simp only [Act.put, List.setIfInBounds_toArray, List.set_cons_zero, List.set_cons_succ, i64_w, i32_w]
                                                     rfl
                                                   refine Pu 5 94 #[true, true, true, true, true, true, false, false, false, false, false, false, false, false, false, false, false, false, false, false, false, false, false, false, false, false] HT_.out ?_
                                                   refine Pu 6 95 #[true, true, true, true, true, true, true, false, false, false, false, false, false, false, false, false, false, false, false, false, false, false, false, false, false, false] HT_.out ?_
                                                   refine pure_ (i := 7) (N := some 96) (v := undef) (a' := ?_) #[true, true, true, true, true, true, true, true, false, false, false, false, false, false, false, false, false, false, false, false, false, false, false, false, false, false] rfl rfl (any_of HT_.out (by kernel_rfl)) (fun _ _ _ h => h) (Or.inr ⟨by rfl, rfl⟩) ?_ ?_
                                                   rotate_left
                                                   · simp only [Act.put, List.setIfInBounds_toArray, List.set_cons_zero, List.set_cons_succ, i64_w, i32_w]
                                                     rfl
                                                   refine pure_ (i := 8) (N := some 97) (v := undef) (a' := ?_) #[true, true, true, true, true, true, true, true, true, false, false, false, false, false, false, false, false, false, false, false, false, false, false, false, false, false] rfl rfl (any_of HT_.out (by kernel_rfl)) (fun _ _ _ h => h) (Or.inr ⟨by rfl, rfl⟩) ?_ ?_
                                                   rotate_left
                                                   · simp only [Act.put, List.setIfInBounds_toArray, List.set_cons_zero, List.set_cons_succ, i64_w, i32_w]
                                                     rfl
                                                   refine pure_ (i := 9) (N := some 98) (v := undef) (a' := ?_) #[true, true, true, true, true, true, true, true, true, true, false, false, false, false, false, false, false, false, false, false, false, false, false, false, false, false] rfl rfl (any_of HT_.out (by kernel_rfl)) (fun _ _ _ h => h) (Or.inr ⟨by rfl, rfl⟩) ?_ ?_
                                                   rotate_left
                                                   · simp only [Act.put, List.setIfInBounds_toArray, List.set_cons_zero, List.set_cons_succ, i64_w, i32_w]
                                                     rfl
                                                   refine pure_ (i := 10) (N := some 99) (v := undef) (a' := ?_) #[true, true, true, true, true, true, true, true, true, true, true, false, false, false, false, false, false, false, false, false, false, false, false, false, false, false] rfl rfl (any_of HT_.out (by kernel_rfl)) (fun _ _ _ h => h) (Or.inr ⟨by rfl, rfl⟩) ?_ ?_
                                                   rotate_left
                                                   · simp only [Act.put, List.setIfInBounds_toArray, List.set_cons_zero, List.set_cons_succ, i64_w, i32_w]
                                                     rfl
                                                   refine pure_ (i := 11) (N := some 100) (v := undef) (a' := ?_) #[true, true, true, true, true, true, true, true, true, true, true, true, false, false, false, false, false, false, false, false, false, false, false, false, false, false] rfl rfl (any_of HT_.out (by kernel_rfl)) (fun _ _ _ h => h) (Or.inr ⟨by rfl, rfl⟩) ?_ ?_
                                                   rotate_left
                                                   · simp only [Act.put, List.setIfInBounds_toArray, List.set_cons_zero, List.set_cons_succ, i64_w, i32_w]
                                                     rfl
                                                   refine pure_ (i := 12) (N := some 101) (v := undef) (a' := ?_) #[true, true, true, true, true, true, true, true, true, true, true, true, true, false, false, false, false, false, false, false, false, false, false, false, false, false] rfl rfl (any_of HT_.out (by kernel_rfl)) (fun _ _ _ h => h) (Or.inr ⟨by rfl, rfl⟩) ?_ ?_
                                                   rotate_left
                                                   · simp only [Act.put, List.setIfInBounds_toArray, List.set_cons_zero, List.set_cons_succ, i64_w, i32_w]
                                                     rfl
                                                   refine pure_ (i := 13) (N := some 102) (v := undef) (a' := ?_) #[true, true, true, true, true, true, true, true, true, true, true, true, true, true, false, false, false, false, false, false, false, false, false, false, false, false] rfl rfl (any_of HT_.out (by kernel_rfl)) (fun _ _ _ h => h) (Or.inr ⟨by rfl, rfl⟩) ?_ ?_
                                                   rotate_left
                                                   · simp only [Act.put, List.setIfInBounds_toArray, List.set_cons_zero, List.set_cons_succ, i64_w, i32_w]
                                                     rfl
                                                   refine pure_ (i := 14) (N := some 103) (v := undef) (a' := ?_) #[true, true, true, true, true, true, true, true, true, true, true, true, true, true, true, false, false, false, false, false, false, false, false, false, false, false] rfl rfl (any_of HT_.out (by kernel_rfl)) (fun _ _ _ h => h) (Or.inr ⟨by rfl, rfl⟩) ?_ ?_
                                                   rotate_left
                                                   · simp only [Act.put, List.setIfInBounds_toArray, List.set_cons_zero, List.set_cons_succ, i64_w, i32_w]
                                                     rfl
                                                   refine pure_ (i := 15) (N := some 104) (v := undef) (a' := ?_) #[true, true, true, true, true, true, true, true, true, true, true, true, true, true, true, true, false, false, false, false, false, false, false, false, false, false] rfl rfl (any_of HT_.out (by kernel_rfl)) (fun _ _ _ h => h) (Or.inr ⟨by rfl, rfl⟩) ?_ ?_
                                                   rotate_left
                                                   · simp only [Act.put, List.setIfInBounds_toArray, List.set_cons_zero, List.set_cons_succ, i64_w, i32_w]
                                                     rfl
                                                   refine pure_ (i := 16) (N := some 105) (v := undef) (a' := ?_) #[true, true, true, true, true, true, true, true, true, true, true, true, true, true, true, true, true, false, false, false, false, false, false, false, false, false] rfl rfl (any_of HT_.out (by kernel_rfl)) (fun _ _ _ h => h) (Or.inr ⟨by rfl, rfl⟩) ?_ ?_
                                                   rotate_left
                                                   · simp only [Act.put, List.setIfInBounds_toArray, List.set_cons_zero, List.set_cons_succ, i64_w, i32_w]
                                                     rfl
                                                   refine pure_ (i := 17) (N := some 106) (v := undef) (a' := ?_) #[true, true, true, true, true, true, true, true, true, true, true, true, true, true, true, true, true, true, false, false, false, false, false, false, false, false] rfl rfl (any_of HT_.out (by kernel_rfl)) (fun _ _ _ h => h) (Or.inr ⟨by rfl, rfl⟩) ?_ ?_
                                                   rotate_left
                                                   · simp only [Act.put, List.setIfInBounds_toArray, List.set_cons_zero, List.set_cons_succ, i64_w, i32_w]
                                                     rfl
                                                   refine pure_ (i := 18) (N := some 107) (v := undef) (a' := ?_) #[true, true, true, true, true, true, true, true, true, true, true, true, true, true, true, true, true, true, true, false, false, false, false, false, false, false] rfl rfl (any_of HT_.out (by kernel_rfl)) (fun _ _ _ h => h) (Or.inr ⟨by rfl, rfl⟩) ?_ ?_
                                                   rotate_left
                                                   · simp only [Act.put, List.setIfInBounds_toArray, List.set_cons_zero, List.set_cons_succ, i64_w, i32_w]
                                                     rfl
                                                   refine pure_ (i := 19) (N := some 108) (v := undef) (a' := ?_) #[true, true, true, true, true, true, true, true, true, true, true, true, true, true, true, true, true, true, true, true, false, false, false, false, false, false] rfl rfl (any_of HT_.out (by kernel_rfl)) (fun _ _ _ h => h) (Or.inr ⟨by rfl, rfl⟩) ?_ ?_
                                                   rotate_left
                                                   · simp only [Act.put, List.setIfInBounds_toArray, List.set_cons_zero, List.set_cons_succ, i64_w, i32_w]
                                                     rfl
                                                   refine pure_ (i := 20) (N := some 109) (v := undef) (a' := ?_) #[true, true, true, true, true, true, true, true, true, true, true, true, true, true, true, true, true, true, true, true, true, false, false, false, false, false] rfl rfl (any_of HT_.out (by kernel_rfl)) (fun _ _ _ h => h) (Or.inr ⟨by rfl, rfl⟩) ?_ ?_
                                                   rotate_left
                                                   · simp only [Act.put, List.setIfInBounds_toArray, List.set_cons_zero, List.set_cons_succ, i64_w, i32_w]
                                                     rfl
                                                   refine pure_ (i := 21) (N := some 110) (v := undef) (a' := ?_) #[true, true, true, true, true, true, true, true, true, true, true, true, true, true, true, true, true, true, true, true, true, true, false, false, false, false] rfl rfl (any_of HT_.out (by kernel_rfl)) (fun _ _ _ h => h) (Or.inr ⟨by rfl, rfl⟩) ?_ ?_
                                                   rotate_left
                                                   · simp only [Act.put, List.setIfInBounds_toArray, List.set_cons_zero, List.set_cons_succ, i64_w, i32_w]
                                                     rfl
                                                   refine pure_ (i := 22) (N := some 111) (v := undef) (a' := ?_) #[true, true, true, true, true, true, true, true, true, true, true, true, true, true, true, true, true, true, true, true, true, true, true, false, false, false] rfl rfl (any_of HT_.out (by kernel_rfl)) (fun _ _ _ h => h) (Or.inr ⟨by rfl, rfl⟩) ?_ ?_
                                                   rotate_left
                                                   · simp only [Act.put, List.setIfInBounds_toArray, List.set_cons_zero, List.set_cons_succ, i64_w, i32_w]
                                                     rfl
                                                   refine pure_ (i := 23) (N := some 112) (v := undef) (a' := ?_) #[true, true, true, true, true, true, true, true, true, true, true, true, true, true, true, true, true, true, true, true, true, true, true, true, false, false] rfl rfl (any_of HT_.out (by kernel_rfl)) (fun _ _ _ h => h) (Or.inr ⟨by rfl, rfl⟩) ?_ ?_
                                                   rotate_left
                                                   · simp only [Act.put, List.setIfInBounds_toArray, List.set_cons_zero, List.set_cons_succ, i64_w, i32_w]
                                                     rfl
                                                   refine Pu 24 113 #[true, true, true, true, true, true, true, true, true, true, true, true, true, true, true, true, true, true, true, true, true, true, true, true, true, false] HT_.out ?_
                                                   refine Pu 25 88 #[true, true, true, true, true, true, true, true, true, true, true, true, true, true, true, true, true, true, true, true, true, true, true, true, true, true] HT_.out ?_
                                                   refine done_ (done_of HT_.out (by kernel_rfl)) ?_
                                                   have p300 : 0 ≤ (x11_2 : Int) := Oa
                                                   have q300 : x11_2 < (x8_3.length : Int) := Oa
                                                   obtain ⟨ad300, A300_0, c300_0, e300, hx300_0, hl300_0, hi300_0⟩ := at_L2 (Kd.S_reads' HO_8.out).2.2 x11_2 p300 q300
                                                   obtain rfl : (⟨go28, 0, none⟩ : Addr) = ad300 := (by injection e300)
                                                   obtain ⟨ce300, hce300, hMe300, hcc300⟩ := Kd.S_get HO_8.out [] x11_2 p300 (by first | exact q300 | exact Oa | (have e_ := (Kd.S_reads' HO_8.out).1; omega))
                                                   obtain ⟨ve300_0, rfl, ge300_0⟩ := hMe300
                                                   have hv300_0 := hcc300 0 _ rfl
                                                   rw [Nat.add_zero, show ((Kd.slice 3 (Kd.int .i64))).sz = 1 from rfl, Nat.mul_one] at hv300_0
                                                   replace hv300_0 := Option.some.inj (hv300_0.symm.trans hx300_0)
                                                   rw [hv300_0] at ge300_0
                                                   have HL300_0 := Aside0.mk (show Kd.R (Kd.int .i64) 3 _ _ _ _ (rd_L2 x8_3 x11_2) from ge300_0)
                                                   clear hv300_0 ge300_0
                                                   have HX300_0 := Aside0.mk hx300_0
                                                   clear hcc300 hce300
                                                   (first | simp only [add_plain] at hx300_0 | simp only [add_at] at hx300_0 | simp only [Addr.add, Nat.zero_add] at hx300_0 | skip)
                                                   have HR300_0 := Aside0.mk hi300_0
                                                   have HC300_0 := Aside0.mk hl300_0
                                                   clear hi300_0 hl300_0
                                                   replace p300 := eq_true p300
                                                   replace q300 := eq_true q300
                                                   have p79 : 0 ≤ (x63_3 : Int) := Oa
                                                   have q79 : (x63_3 : Int) < (((rd_L2 x8_3 x11_2).length : Int) : Int) := Oa
                                                   obtain ⟨go79, co79, eo79, gb79, gl79, cl79, HG79⟩ := Kd.R_form HL300_0.out (by omega)
                                                   (first | cases eo79 | (injection eo79 with ea_ en_ ec_; (first | subst ea_ | (injection ea_ with ea_; subst ea_)); subst ec_; clear en_))
                                                   have GB79 := Aside0.mk gb79
                                                   have GG79 := Aside0.mk HG79
                                                   clear gb79 gl79 HG79
                                                   obtain ⟨hx79_0, hf79_0⟩ := Kd.R_celln 0 HL300_0.out (x63_3 : Int) p79 q79
                                                   replace p79 := eq_true p79
                                                   replace q79 := eq_true q79
                                                   have hq81 : (x11_2 : Int) < (x8_3.length : Int) := (by have h_ : (x11_2 : Int) < ((x8_3.length : Int) : Int) := Oa; first | exact h_ | (have e_ := (Kd.S_reads' HO_8.out).1; omega) | simpa only [List.length_set, List.length_set] using h_)
                                                   obtain ⟨oki81, ce81, hcl81, hM81, hcc81, hok81, hbk81⟩ := Kd.S_borrow HO_8.out [] (x11_2 : Int) (Oa) hq81
                                                   obtain ⟨ve81_0, rfl, ge81_0⟩ := hM81
                                                   have hv81 := hcc81 0 _ rfl
                                                   rw [Nat.add_zero, show ((Kd.slice 3 (Kd.int .i64))).sz = 1 from rfl, Nat.mul_one] at hv81
                                                   replace hv81 := Option.some.inj (hv81.symm.trans HX300_0.out)
                                                   subst hv81
                                                   (try clear hcc81); (try clear hcl81)
                                                   replace ge81_0 := (show Kd.R (Kd.int .i64) 3 _ _ _ _ (rd_L2 x8_3 x11_2) from ge81_0)
                                                   have HP81 := Kd.R_putg ge81_0 (x63_3 : Int) 1001
                                                   try go_wp2_with (first | ((with_reducible refine gate_store (t := 3) (p := 71) rfl ?_); refine store_event (t := 3) (p := 71) (v := ?vo_w82) (w1 := (w80.setCell ⟨go79, (x63_3 : Int).toNat, none⟩ (.int .i64 1001))) ?hg ?ho ?hn ?hr ?_; (case ho => rfl); (case hg => rfl); (case hn => rfl); (case hr => first | (go_simp; done) | (go_simp; rfl)); intro w82 hw; have hg : w80.grownBy w82 (some go79) := (by rw [hw]; exact HP81.2); have hz_ : Kd.R (Kd.int .i64) 3 w82 w.heap.size oki81 (.slice (some ⟨go79, 0, none⟩) (rd_L2 x8_3 x11_2).length c300_0) y301 := (by rw [hw, Ny301.out]; exact HP81.1); have hp_ : Kd.S (Kd.slice 3 (Kd.int .i64)) 24 w82 w.heap.size (fun _ => True) (.slice (some ⟨go28, 0, none⟩) x8_3.length co28) y303 := (by rw [Ny303.out]; exact hbk81 hg (fun k_ e_ => by injection e_ with e_; subst e_; exact ge81_0.1 _ rfl) (Kd.M_row hz_)); have hm_ := Kd.R_mono hz_ hok81; clear HP81 hbk81; replace HO_8 := Aside0.mk (hp_); replace HB := Aside0.mk ((by rw [hw]; exact below_set (HB.out) GB79.out : Below w.heap.size w w82)); have HL317 := Aside0.mk (hm_); have HC302 := Aside0.mk ((Kd.R_reads' hm_).2.1); clear HL278_0 HL300_0; clear hg hw hp_ hz_ hm_ hok81))
                                                   (try simp only [← hl8_3])
                                                   go_roundg k3
                                                   case measure => have := HK1.out; have := HK2.out; have := HK3.out; omega
                                                   case rel => exact ⟨(y303), (wrap64 (x63_3 + 1)), Rs, H', ⟨by have := HK1.out; have := HK2.out; have := HK3.out; omega⟩, ⟨by (try simp only [hl9_1]); (try simp only [hl8_2]); (try simp only [hl8_3]); (with_reducible repeat (first | apply Kd.S_alloc | apply Kd.S_drewN | apply Kd.S_drew)); exact HO_8.out⟩, ⟨Ub⟩⟩
                                                 rw [if_neg c78] at H
                                                 exact absurd H (by simp)
                                               rw [if_neg c77] at H
                                               exact absurd H (by simp)
                                             rw [if_neg c58] at H
                                             exact absurd H (by simp)
                                           rw [if_neg c57] at H
                                           exact absurd H (by simp)
                                         rw [if_neg c49] at H
                                         exact absurd H (by simp)
                                       rw [if_neg c48] at H
                                       exact absurd H (by simp)
                                     rw [if_neg c47] at H
                                     exact absurd H (by simp)
                                   rw [if_neg c46] at H
                                   exact absurd H (by simp)
                                 rw [if_neg c44] at H
                                 have c44b0 : decide (x63_3 < ((rd_L2 y276 x11_2).length : Int)) = false := decide_eq_false c44
                                 (try rw [hl8_3] at c44b0); (try rw [hl8_2] at c44b0); (try rw [hl9_1] at c44b0)
                                 clear c44
                                 have H' := Aside0.mk H
                                 clear H
                                 go_wp2
                                 (try simp only [← hl8_2, ← hl8_3])
                                 go_roundg k3
                                 case measure => have := HK1.out; have := HK2.out; have := HK3.out; omega
                                 case rel => exact ⟨(x8_3), (wrap64 (x11_2 - 1)), Rs, H', ⟨by have := HK1.out; have := HK2.out; have := HK3.out; omega⟩, ⟨by (try simp only [hl9_1]); (try simp only [hl8_2]); (try simp only [hl8_3]); (with_reducible repeat (first | apply Kd.S_alloc | apply Kd.S_drewN | apply Kd.S_drew)); exact HO_8.out⟩, ⟨Ub⟩⟩
                             rw [if_neg c38] at H
                             exact absurd H (by simp)
                           rw [if_neg c37] at H
                           exact absurd H (by simp)
                         rw [if_neg c36] at H
                         exact absurd H (by simp)
                       rw [if_neg c35] at H
                       exact absurd H (by simp)
                     rw [if_neg c33] at H
                     have c33b0 : decide (0 ≤ x11_2) = false := decide_eq_false c33
                     (try rw [hl8_3] at c33b0); (try rw [hl8_2] at c33b0); (try rw [hl9_1] at c33b0)
                     clear c33
                     by_cases c83 : 0 < (x8_2.length : Int)
                     · rw [if_pos c83] at H
                       have c83b0 : decide (0 < (x8_2.length : Int)) = true := decide_eq_true c83
                       (try (have c83b9 := c83b0; rw [hl9_1] at c83b9)); (try (have c83b9 := c83b0; rw [hl8_2] at c83b9)); (try (have c83b9 := c83b0; rw [hl8_3] at c83b9))
                       have c83b1 : decide (0 < x8_2.length) = true := decide_eq_true (by omega)
                       clear c83
                       by_cases c84 : 0 ≤ a2
                       · rw [if_pos c84] at H
                         have c84b0 : decide (0 ≤ a2) = true := decide_eq_true c84
                         (try (have c84b9 := c84b0; rw [hl9_1] at c84b9)); (try (have c84b9 := c84b0; rw [hl8_2] at c84b9)); (try (have c84b9 := c84b0; rw [hl8_3] at c84b9))
                         clear c84
                         by_cases c85 : a2 < ((rd_L2 x8_2 0).length : Int)
                         · rw [if_pos c85] at H
                           have c85b0 : decide (a2 < ((rd_L2 x8_2 0).length : Int)) = true := decide_eq_true c85
                           (try (have c85b9 := c85b0; rw [hl9_1] at c85b9)); (try (have c85b9 := c85b0; rw [hl8_2] at c85b9)); (try (have c85b9 := c85b0; rw [hl8_3] at c85b9))
                           clear c85
                           by_cases c86 : (rd (rd_L2 x8_2 0) a2) = 1001
                           · rw [if_pos c86] at H
                             have c86b0 := beq_iff_eq.mpr c86
                             have c86b1 := bne_eq_false_iff_eq.mpr c86
                             clear c86
                             simp only [Option.some.injEq, Prod.mk.injEq] at H
                             obtain ⟨rfl, rfl⟩ := H
                             have p304 : 0 ≤ (0 : Int) := (by omega)
                             have q304 : 0 < (x8_2.length : Int) := Oa
                             obtain ⟨ad304, A304_0, c304_0, e304, hx304_0, hl304_0, hi304_0⟩ := at_L2 (Kd.S_reads' HO_8.out).2.2 0 p304 q304
                             obtain rfl : (⟨go28, 0, none⟩ : Addr) = ad304 := (by injection e304)
                             obtain ⟨ce304, hce304, hMe304, hcc304⟩ := Kd.S_get HO_8.out [] 0 p304 (by first | exact q304 | exact Oa | (have e_ := (Kd.S_reads' HO_8.out).1; omega))
                             obtain ⟨ve304_0, rfl, ge304_0⟩ := hMe304
                             have hv304_0 := hcc304 0 _ rfl
                             rw [Nat.add_zero, show ((Kd.slice 3 (Kd.int .i64))).sz = 1 from rfl, Nat.mul_one] at hv304_0
                             replace hv304_0 := Option.some.inj (hv304_0.symm.trans hx304_0)
                             rw [hv304_0] at ge304_0
                             have HL304_0 := Aside0.mk (show Kd.R (Kd.int .i64) 3 _ _ _ _ (rd_L2 x8_2 0) from ge304_0)
                             clear hv304_0 ge304_0
                             have HX304_0 := Aside0.mk hx304_0
                             clear hcc304 hce304
                             (first | simp only [add_plain] at hx304_0 | simp only [add_at] at hx304_0 | simp only [Addr.add, Nat.zero_add] at hx304_0 | skip)
                             have qi304 : (0 < x8_2.length) = True := eq_true (by omega)
                             (try rw [show ((0 : Int)).toNat = 0 from rfl] at hx304_0)
                             (try rw [Addr.add_zero'] at hx304_0)
                             have HR304_0 := Aside0.mk hi304_0
                             have HC304_0 := Aside0.mk hl304_0
                             clear hi304_0 hl304_0
                             replace p304 := eq_true p304
                             replace q304 := eq_true q304
                             obtain ⟨p305, q305, ad305, e305, hx305_0⟩ := Ai (by repeat (first | (with_reducible exact HR304_0.out) | (with_reducible refine Kd.C_alloc ?_ _) | (with_reducible refine Kd.C_drewN ?_ _) | (with_reducible refine Kd.C_drew ?_) | exact HR304_0.out)) a2
                             cases e305
                             go_wp2
                             go_ret2
                             exact ⟨_, by first | rfl | (simp [errW_none, errW_some] <;> rfl) | (simp only [← hji6, ← hji9]; first | rfl | (simp [errW_none, errW_some] <;> rfl)) | (simp [*, errW_none, errW_some] <;> rfl), Nl, Ub⟩
                           rw [if_neg c86] at H
                           have c86b0 := beq_eq_false_iff_ne.mpr c86
                           have c86b1 := bne_iff_ne.mpr c86
                           obtain ⟨y306, hy306⟩ : ∃ y_ : List Int, y_ = (([] : List Int)) := ⟨_, rfl⟩
                           replace H : (impl_ChangeFrom.l3 k2 a2 x8_2 y306 l0 (l0.length : Int) 0) = some (r1, r2) := by first | (rw [hy306]; with_reducible exact H) | (have H2_ := (Option.bind_some _ _).symm.trans H; rw [hy306]; with_reducible exact H2_) | (have H2_ := (Option.bind_some _ _).symm.trans H; with_reducible exact H2_) | with_reducible exact H | (rw [hy306]; exact H) | exact H
                           have Ny306 := Aside0.mk hy306
                           clear hy306
                           have H' := Aside0.mk H
                           clear H
                           have p304 : 0 ≤ (0 : Int) := (by omega)
                           have q304 : 0 < (x8_2.length : Int) := Oa
                           obtain ⟨ad304, A304_0, c304_0, e304, hx304_0, hl304_0, hi304_0⟩ := at_L2 (Kd.S_reads' HO_8.out).2.2 0 p304 q304
                           obtain rfl : (⟨go28, 0, none⟩ : Addr) = ad304 := (by injection e304)
                           obtain ⟨ce304, hce304, hMe304, hcc304⟩ := Kd.S_get HO_8.out [] 0 p304 (by first | exact q304 | exact Oa | (have e_ := (Kd.S_reads' HO_8.out).1; omega))
                           obtain ⟨ve304_0, rfl, ge304_0⟩ := hMe304
                           have hv304_0 := hcc304 0 _ rfl
                           rw [Nat.add_zero, show ((Kd.slice 3 (Kd.int .i64))).sz = 1 from rfl, Nat.mul_one] at hv304_0
                           replace hv304_0 := Option.some.inj (hv304_0.symm.trans hx304_0)
                           rw [hv304_0] at ge304_0
                           have HL304_0 := Aside0.mk (show Kd.R (Kd.int .i64) 3 _ _ _ _ (rd_L2 x8_2 0) from ge304_0)
                           clear hv304_0 ge304_0
                           have HX304_0 := Aside0.mk hx304_0
                           clear hcc304 hce304
                           (first | simp only [add_plain] at hx304_0 | simp only [add_at] at hx304_0 | simp only [Addr.add, Nat.zero_add] at hx304_0 | skip)
                           have qi304 : (0 < x8_2.length) = True := eq_true (by omega)
                           (try rw [show ((0 : Int)).toNat = 0 from rfl] at hx304_0)
                           (try rw [Addr.add_zero'] at hx304_0)
                           have HR304_0 := Aside0.mk hi304_0
                           have HC304_0 := Aside0.mk hl304_0
                           clear hi304_0 hl304_0
                           replace p304 := eq_true p304
                           replace q304 := eq_true q304
                           obtain ⟨p305, q305, ad305, e305, hx305_0⟩ := Ai (by repeat (first | (with_reducible exact HR304_0.out) | (with_reducible refine Kd.C_alloc ?_ _) | (with_reducible refine Kd.C_drewN ?_ _) | (with_reducible refine Kd.C_drew ?_) | exact HR304_0.out)) a2
                           cases e305
                           go_wp2_with (first | ((with_reducible refine gate_dst (N := 141) rfl ?_); refine Kd.R_lit (Kd.int .i64) _ 3 ?hg (N := 141) ?hd (xs := ([] : List Int)) (inner := []) (ok := fun _ => True) (okp := fun _ => True) ?hr ?hp (fun _ hk => hk) trivial (Below.refl _ _) (Nat.le_refl _) (by simp) ?_; (case hd => rfl); (case hg => rfl); (case hr => first | (go_simp; done) | (go_simp; rfl)); (case hp => exact (Reps.none _ _)); intro v307 w87 ho88 hb hg_ hnew_; clear hg_ hnew_; (first | rw [← Ny306.out] at ho88 | (simp only [Int.reduceToNat] at ho88; rw [← Ny306.out] at ho88)); replace HO_8 := Aside0.mk (Kd.S_elder' (Sm HO_8.out) (Kd.R_base ho88) hb); have HO308 := Aside0.mk (Kd.R_lower (Kd.R_new' ho88 (Kd.R_lt (Rm HL304_0.out))) (below_size Ub)); replace HL304_0 := Aside0.mk (Kd.R_elder' (Rm HL304_0.out) (Kd.R_base ho88) hb); replace HR304_0 := Aside0.mk (Kd.C_below (by repeat (first | (with_reducible exact HR304_0.out) | (with_reducible refine Kd.C_alloc ?_ _) | (with_reducible refine Kd.C_drewN ?_ _) | (with_reducible refine Kd.C_drew ?_) | exact HR304_0.out)) hb); replace HX304_0 := Aside0.mk (pw_cell_below hb HX304_0.out); replace HB := Aside0.mk (below_step Ub hb); clear hb ho88))
                           go_loopg [2, 13, 144] k2 (fun kq v2 v13 v144 w' => ∃ (x2_3 : Int) (x13_3 : List Int) (x144_3 : Int), v2 = .int .i64 x2_3 ∧ v144 = .int .i64 x144_3 ∧ Aside0 (impl_ChangeFrom.l3 kq x2_3 x8_2 x13_3 l0 (l0.length : Int) x144_3 = some (r1, r2)) ∧ Aside0 (kq ≤ k2) ∧ Aside0 (Kd.S (Kd.slice 3 (Kd.int .i64)) 24 w' w.heap.size (fun k_ => some k_ ≠ (v13 : Value).ownBlock) (.slice (some ⟨go28, 0, none⟩) x8_2.length co28) x8_2) ∧ Aside0 (Kd.R (Kd.int .i64) 3 w' w.heap.size (fun _ => True) v13 x13_3) ∧ Aside0 (Below w.heap.size w w'))
                           case atStart => exact ⟨(a2), (y306), (0), Rs, Rs, H', ⟨Nat.le_refl _⟩, ⟨by (try simp only [hl9_1]); (try simp only [hl8_2]); (with_reducible repeat (first | apply Kd.S_alloc | apply Kd.S_drewN | apply Kd.S_drew)); exact Kd.S_mono HO_8.out (fun _ hk => hk.2)⟩, ⟨by (try simp only [hl9_1]); (try simp only [hl8_2]); (with_reducible repeat (first | apply Kd.R_alloc | apply Kd.R_drewN | apply Kd.R_drew)); exact Kd.R_mono HO308.out (fun _ hk => trivial)⟩, ⟨Ub⟩⟩
                           case round =>
                            clear H'
                            try clear c5
                            try clear c7
                            try clear c8
                            try clear c27
                            try clear p28
                            try clear q28
                            try clear c33
                            try clear c33b0
                            try clear c35
                            try clear c36
                            try clear c37
                            try clear c38
                            try clear c44
                            try clear c44b0
                            try clear c46
                            try clear c47
                            try clear c48
                            try clear c49
                            try clear c57
                            try clear c58
                            try clear c59
                            try clear c59b0
                            try clear c60
                            try clear c62
                            try clear c63
                            try clear c64
                            try clear c72
                            try clear p73
                            try clear q73
                            try clear c77
                            try clear c77b0
                            try clear c78
                            try clear c78b0
                            try clear p79
                            try clear q79
                            try clear c83
                            try clear c83b0
                            try clear c83b1
                            try clear c84
                            try clear c84b0
                            try clear c85
                            try clear c85b0
                            try clear c86
                            try clear c86b0
                            try clear c86b1
                            try clear hx278_0
                            try clear hx279_0
                            try clear hx284_0
                            try clear hx285_0
                            try clear hx287_0
                            try clear hx296_0
                            try clear hx300_0
                            try clear hx304_0
                            try clear hx305_0
                            try clear hx73_0
                            try clear hx79_0
                            try clear p278
                            try clear p279
                            try clear p284
                            try clear p296
                            try clear p300
                            try clear p304
                            try clear p305
                            try clear p73
                            try clear p79
                            try clear q278
                            try clear q279
                            try clear q284
                            try clear q296
                            try clear q300
                            try clear q304
                            try clear q305
                            try clear q73
                            try clear q79
                            obtain ⟨x2_3, x13_3, x144_3, rfl, rfl, HA, HK3, HO_8, HO_13, HB⟩ := hrel
                            cases gk with
                            | zero => exact absurd HA.out (by simp [impl_ChangeFrom.l3])
                            | succ k3 =>
                             have H := HA.out
                             clear HA
                             simp only [impl_ChangeFrom.l3] at H
                             by_cases c89 : x144_3 < (l0.length : Int)
                             · rw [if_pos c89] at H
                               have c89b0 : decide (x144_3 < (l0.length : Int)) = true := decide_eq_true c89
                               (try (have c89b9 := c89b0; rw [hl9_1] at c89b9)); (try (have c89b9 := c89b0; rw [hl8_2] at c89b9)); (try (have c89b9 := c89b0; rw [hl8_3] at c89b9))
                               clear c89
                               by_cases c90 : 0 ≤ x144_3
                               · rw [if_pos c90] at H
                                 have c90b0 : decide (0 ≤ x144_3) = true := decide_eq_true c90
                                 (try (have c90b9 := c90b0; rw [hl9_1] at c90b9)); (try (have c90b9 := c90b0; rw [hl8_2] at c90b9)); (try (have c90b9 := c90b0; rw [hl8_3] at c90b9))
                                 clear c90
                                 by_cases c91 : x144_3 < (l0.length : Int)
                                 · rw [if_pos c91] at H
                                   have c91b0 : decide (x144_3 < (l0.length : Int)) = true := decide_eq_true c91
                                   (try (have c91b9 := c91b0; rw [hl9_1] at c91b9)); (try (have c91b9 := c91b0; rw [hl8_2] at c91b9)); (try (have c91b9 := c91b0; rw [hl8_3] at c91b9))
                                   clear c91
                                   by_cases c92 : x144_3 < (x8_2.length : Int)
                                   · rw [if_pos c92] at H
                                     have c92b0 : decide (x144_3 < (x8_2.length : Int)) = true := decide_eq_true c92
                                     (try (have c92b9 := c92b0; rw [hl9_1] at c92b9)); (try (have c92b9 := c92b0; rw [hl8_2] at c92b9)); (try (have c92b9 := c92b0; rw [hl8_3] at c92b9))
                                     clear c92
                                     by_cases c93 : 0 ≤ x2_3
                                     · rw [if_pos c93] at H
                                       have c93b0 : decide (0 ≤ x2_3) = true := decide_eq_true c93
                                       (try (have c93b9 := c93b0; rw [hl9_1] at c93b9)); (try (have c93b9 := c93b0; rw [hl8_2] at c93b9)); (try (have c93b9 := c93b0; rw [hl8_3] at c93b9))
                                       clear c93
                                       by_cases c94 : x2_3 < ((rd_L2 x8_2 x144_3).length : Int)
                                       · rw [if_pos c94] at H
                                         have c94b0 : decide (x2_3 < ((rd_L2 x8_2 x144_3).length : Int)) = true := decide_eq_true c94
                                         (try (have c94b9 := c94b0; rw [hl9_1] at c94b9)); (try (have c94b9 := c94b0; rw [hl8_2] at c94b9)); (try (have c94b9 := c94b0; rw [hl8_3] at c94b9))
                                         clear c94
                                         by_cases c95 : x13_3.length < 17592186044416
                                         · rw [if_pos c95] at H
                                           have LMc95 := Aside0.mk c95
                                           clear c95
                                           obtain ⟨y312, hy312⟩ : ∃ y_ : List Int, y_ = (x13_3 ++ [rd (rd_L2 x8_2 x144_3) x2_3]) := ⟨_, rfl⟩
                                           replace H : (impl_ChangeFrom.l3 k3 (wrap64 (x2_3 - (wrap64 ((rd (rd_L2 x8_2 x144_3) x2_3) * (rd l0 x144_3))))) x8_2 y312 l0 (l0.length : Int) (wrap64 (x144_3 + 1))) = some (r1, r2) := by first | (rw [hy312]; with_reducible exact H) | (have H2_ := (Option.bind_some _ _).symm.trans H; rw [hy312]; with_reducible exact H2_) | (have H2_ := (Option.bind_some _ _).symm.trans H; with_reducible exact H2_) | with_reducible exact H | (rw [hy312]; exact H) | exact H
                                           have Ny312 := Aside0.mk hy312
                                           clear hy312
                                           have H' := Aside0.mk H
                                           clear H
                                           obtain ⟨p309, q309, ad309, e309, hx309_0⟩ := Ai HR0.out x144_3
                                           cases e309
                                           replace hx309_0 := (HB.out.cell (World.block_lt_of_cell? w _ hx309_0)).trans hx309_0
                                           have p310 : 0 ≤ (x144_3 : Int) := Oa
                                           have q310 : x144_3 < (x8_2.length : Int) := Oa
                                           obtain ⟨ad310, A310_0, c310_0, e310, hx310_0, hl310_0, hi310_0⟩ := at_L2 (Kd.S_reads' HO_8.out).2.2 x144_3 p310 q310
                                           obtain rfl : (⟨go28, 0, none⟩ : Addr) = ad310 := (by injection e310)
                                           obtain ⟨ce310, hce310, hMe310, hcc310⟩ := Kd.S_get HO_8.out [] x144_3 p310 (by first | exact q310 | exact Oa | (have e_ := (Kd.S_reads' HO_8.out).1; omega))
                                           obtain ⟨ve310_0, rfl, ge310_0⟩ := hMe310
                                           have hv310_0 := hcc310 0 _ rfl
                                           rw [Nat.add_zero, show ((Kd.slice 3 (Kd.int .i64))).sz = 1 from rfl, Nat.mul_one] at hv310_0
                                           replace hv310_0 := Option.some.inj (hv310_0.symm.trans hx310_0)
                                           rw [hv310_0] at ge310_0
                                           have HL310_0 := Aside0.mk (show Kd.R (Kd.int .i64) 3 _ _ _ _ (rd_L2 x8_2 x144_3) from ge310_0)
                                           clear hv310_0 ge310_0
                                           have HX310_0 := Aside0.mk hx310_0
                                           clear hcc310 hce310
                                           (first | simp only [add_plain] at hx310_0 | simp only [add_at] at hx310_0 | simp only [Addr.add, Nat.zero_add] at hx310_0 | skip)
                                           have HR310_0 := Aside0.mk hi310_0
                                           have HC310_0 := Aside0.mk hl310_0
                                           clear hi310_0 hl310_0
                                           replace p310 := eq_true p310
                                           replace q310 := eq_true q310
                                           obtain ⟨p311, q311, ad311, e311, hx311_0⟩ := Ai (by repeat (first | (with_reducible exact HR310_0.out) | (with_reducible refine Kd.C_alloc ?_ _) | (with_reducible refine Kd.C_drewN ?_ _) | (with_reducible refine Kd.C_drew ?_) | exact HR310_0.out)) x2_3
                                           cases e311
                                           go_wp2_with (first | ((with_reducible refine gate_builtin (b := .append) (xs := #[.tmp 156, .tmp 158]) rfl ?_); at_builtin; refine Kd.R_append (Kd.int .i64) (w0 := w) w.heap.size rfl (.tmp 156) (.tmp 158) 24 3 (.int .i64 0) 8 rfl Try.underlying24 info3 rfl (by decide) (by omega) u13 x13_3 (rd (rd_L2 x8_2 x144_3) x2_3) [.int .i64 (rd (rd_L2 x8_2 x144_3) x2_3)] (fun _ => True) (fun _ => False) rfl rfl ?aP (fun _ hk => hk.elim) ?aF ?aO ?aB ?aS ?aL ?_; (case aP => exact rfl); (case aB => exact Ub); (case aF => exact (fun _ _ => trivial)); (case aO => exact (Rm HO_13.out)); (case aS => exact (below_size Ub)); (case aL => have := LMc95.out; omega); intro v313 w96 ho hb hg hat; rw [← Ny312.out] at ho; replace HO_8 := Aside0.mk (Kd.S_after (ok := (fun _ => True)) (by (with_reducible repeat (first | apply Kd.S_alloc | apply Kd.S_drewN | apply Kd.S_drew)); exact Kd.S_mono HO_8.out (fun _ hk => ⟨trivial, hk⟩)) hg hat); replace HL310_0 := Aside0.mk (Kd.R_after (ok := (fun k_ => some k_ ≠ (.slice (some ⟨go28, 0, none⟩) x8_2.length co28 : Value).ownBlock)) (by (with_reducible repeat (first | apply Kd.R_alloc | apply Kd.R_drewN | apply Kd.R_drew)); exact Kd.R_mono HL310_0.out (fun _ hk => ⟨hk.2, hk.1⟩)) hg hat); replace HB := Aside0.mk (hb); have HO314 := Aside0.mk (ho); clear HO_13; clear ho hb hg hat))
                                           go_roundg k3
                                           case measure => have := HK1.out; have := HK2.out; have := HK3.out; omega
                                           case rel => exact ⟨(wrap64 (x2_3 - (wrap64 ((rd (rd_L2 x8_2 x144_3) x2_3) * (rd l0 x144_3))))), (y312), (wrap64 (x144_3 + 1)), Rs, Rs, H', ⟨by have := HK1.out; have := HK2.out; have := HK3.out; omega⟩, ⟨by (try simp only [hl9_1]); (try simp only [hl8_2]); (with_reducible repeat (first | apply Kd.S_alloc | apply Kd.S_drewN | apply Kd.S_drew)); exact Kd.S_mono HO_8.out (fun _ hk => hk.2)⟩, ⟨by (try simp only [hl9_1]); (try simp only [hl8_2]); (with_reducible repeat (first | apply Kd.R_alloc | apply Kd.R_drewN | apply Kd.R_drew)); exact HO314.out⟩, ⟨Ub⟩⟩
                                         rw [if_neg c95] at H
                                         exact absurd H (by simp)
                                       rw [if_neg c94] at H
                                       exact absurd H (by simp)
                                     rw [if_neg c93] at H
                                     exact absurd H (by simp)
                                   rw [if_neg c92] at H
                                   exact absurd H (by simp)
                                 rw [if_neg c91] at H
                                 exact absurd H (by simp)
                               rw [if_neg c90] at H
                               exact absurd H (by simp)
                             rw [if_neg c89] at H
                             have c89b0 : decide (x144_3 < (l0.length : Int)) = false := decide_eq_false c89
                             (try rw [hl8_3] at c89b0); (try rw [hl8_2] at c89b0); (try rw [hl9_1] at c89b0)
                             clear c89
                             simp only [Option.some.injEq, Prod.mk.injEq] at H
                             obtain ⟨rfl, rfl⟩ := H
                             go_wp2
                             go_ret2
                             exact ⟨_, by first | rfl | (simp [errW_none, errW_some] <;> rfl) | (simp only [← hji6, ← hji9]; first | rfl | (simp [errW_none, errW_some] <;> rfl)) | (simp [*, errW_none, errW_some] <;> rfl), Rm HO_13.out, Ub⟩
                         rw [if_neg c85] at H
                         exact absurd H (by simp)
                       rw [if_neg c84] at H
                       exact absurd H (by simp)
                     rw [if_neg c83] at H
                     exact absurd H (by simp)
                 rw [if_neg c27] at H
                 exact absurd H (by simp)
               rw [if_neg c26] at H
               exact absurd H (by simp)
             rw [if_neg c24] at H
             exact absurd H (by simp)
         rw [if_neg c11] at H
         exact absurd H (by simp)
       rw [if_neg c10] at H
       exact absurd H (by simp)
     rw [if_neg c8] at H
     exact absurd H (by simp)
   rw [if_neg c7] at H
   exact absurd H (by simp)
 replace c5 := Bool.eq_false_iff.mpr c5
 subst c5
 have H1 : (some (([] : List Int), false)) = some (r1, r2) := by rw [if_neg (show ¬ (false = true) by decide)] at H; exact H
 clear H
 have H := H1
 clear H1
 simp only [Option.some.injEq, Prod.mk.injEq] at H
 obtain ⟨rfl, rfl⟩ := H
 go_enter Try.func7, Try.ntmps7
 go_wp2_with (first | (refine Gl 20 #[.slice A0 l0.length c0, .slice A1 l1.length c1, .int .i64 a2] Try.func52 ?_; (with_reducible refine (impl_isPurse.calls k _ _ l0 _ _ l1 a2 false _ (Cm HR0.out) HC0.out (Cm HR1.out) HC1.out A4.out).mono ?_); rintro e w97 ⟨rfl, hb⟩; refine ⟨_, rfl, ?_⟩; replace HB := Aside0.mk (below_step Ub hb); clear hb))
 go_ret2
 exact ⟨_, Re, Nl, Ub⟩

end Go.Proofs.Ytkbllhlmcfjcdaa.PFnChangeLeft
