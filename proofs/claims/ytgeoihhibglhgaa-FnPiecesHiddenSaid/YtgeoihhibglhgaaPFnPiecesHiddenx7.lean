-- printed by wip/xp
import Derived.Test.YtgeoihhibglhgaaPFnPiecesHiddenx0
import Derived.Test.YtgeoihhibglhgaaPFnPiecesHiddenx6
set_option maxHeartbeats 8000000
set_option maxRecDepth 100000
namespace Go.Proofs.Ytgeoihhibglhgaa.PFnPiecesHidden
open Go.RowKit Go.Proofs.YtgeoihhibglhgaaW.PrintWords Go.Proofs.YtgeoihhibglhgaaW.PrintLast Go.Proofs.YtgeoihhibglhgaaW.PrintMore Go.Proofs.Ytgeoihhibglhgaa.Xmv
attribute [local go_sem] max2_int min2_int max_two min_two max_three min_three max_four min_four
set_option linter.unusedVariables false
set_option linter.unusedSimpArgs false

/-! ### spec_piWays: function 202 -/
mutual
def spec_piWays.l0 : Nat → List Int → List Int → Int → Int → Option (List Int)
 | 0, _, _, _, _ => none
 | k + 1, x3, x13, x14, x15 => if x15 < x14 then (if 0 ≤ x15 then (if x15 < (x13.length : Int) then (spec_piWays.l1 k x3 (rd x13 x15) (wrap64 ((x3.length : Int) - 1)) x13 x14 x15) else (none)) else (none)) else (some x3)
def spec_piWays.l1 : Nat → List Int → Int → Int → List Int → Int → Int → Option (List Int)
 | 0, _, _, _, _, _, _ => none
 | k + 1, x3, x5, x6, x13, x14, x15 => if x6 ≥ x5 then (if 0 ≤ x6 then (if x6 < (x3.length : Int) then (if 0 ≤ (wrap64 (x6 - x5)) then (if (wrap64 (x6 - x5)) < (x3.length : Int) then (spec_piWays.l1 k (x3.set (x6 : Int).toNat (wrap64 ((rd x3 x6) + (rd x3 (wrap64 (x6 - x5)))))) x5 (wrap64 (x6 - 1)) x13 x14 x15) else (none)) else (none)) else (none)) else (none)) else (spec_piWays.l0 k x3 x13 x14 (wrap64 (x15 + 1)))
end
def spec_piWays.f (k : Nat) (l0 : List Int) : Option (List Int) := (spec_piSum.f k l0).bind fun t256 => (if 0 ≤ (wrap64 (t256 + 1)) then (if (wrap64 (t256 + 1) : Int).toNat ≤ 35184372088832 then ((some (List.replicate (wrap64 (t256 + 1) : Int).toNat 0 : List Int)).bind fun y257 => (if 0 < (y257.length : Int) then (spec_piWays.l0 k (y257.set (0 : Int).toNat 1) l0 (l0.length : Int) 0) else (none))) else (none)) else (none))
def spec_piWays.T9 : Bool × List (List Nat × List Nat) := (true, [([], []), ([], []), ([0, 1], [0, 1]), ([2], [2]), ([], []), ([], []), ([], []), ([5, 6], [5, 6]), ([4, 7], [4, 7]), ([8], [8]), ([3, 9], [3, 9]), ([0, 1, 0, 1, 2, 3, 4, 5, 6, 7, 8, 9, 10], [0, 1]), ([11, 10, 0, 1, 2, 3, 4, 5, 6, 7, 8, 9, 10], [10, 11])])
def spec_piWays.B9 : List Nat := [0, 0, 3, 7, 0, 0, 0, 96, 240, 496, 1023, 2047, 4095]
theorem spec_piWays.tab9 : rtab .any (opsOf Try.f202 9) = spec_piWays.T9 := by kernel_rfl
theorem spec_piWays.bits9 : waitsOk spec_piWays.T9.2 spec_piWays.B9 = true := by kernel_rfl
theorem spec_piWays.calls (k : Nat) (A0 : Option Addr) (c0 : Nat) (l0 : List Int) (r : List Int) (w : World) (hr0 : Kd.C (Kd.int .i64) w A0 l0.length l0) (hc0 : l0.length ≤ c0) (h : spec_piWays.f k l0 = some r) :
 Calls Try.prog 202 #[.slice A0 l0.length c0] w fun e w' => ∃ v0_ : Value, e = .returned (v0_) ∧ Kd.R (Kd.int .i64) 3 w' w.heap.size (fun _ => True) v0_ r ∧ Below w.heap.size w w' := by
 have HR0 := jA hr0
 have HC0 := jA hc0
 clear hr0 hc0
 have HB := jA (jU w.heap.size w)
 have H := h; unfold spec_piWays.f at H
 clear h
 replace H := jD H
 obtain ⟨t256, A20, H⟩ := H
 have A2 := jA A20
 clear A20
 obtain ⟨ji3, hji3⟩ : ∃ j_ : Int, (wrap64 (t256 + 1)) = j_ := ⟨_, rfl⟩
 replace H : (if 0 ≤ (ji3) then (if (ji3 : Int).toNat ≤ 35184372088832 then ((some (List.replicate (ji3 : Int).toNat 0 : List Int)).bind fun y257 => (if 0 < (y257.length : Int) then (spec_piWays.l0 k (y257.set (0 : Int).toNat 1) l0 (l0.length : Int) 0) else (none))) else (none)) else (none)) = some r := by first | (rw [hji3] at H; exact H) | (simp only [hji3] at H ⊢; exact H)
 (try rw [hji3] at A2)
 have hji3w : (IntKind.i64.wrap (t256 + 1)) = ji3 := (i64_w _).trans hji3
 replace H := Ic H; rcases H with ⟨c4, H⟩ | ⟨c4, H⟩
 · have c4b0 := eq_true c4
   have c4b1 := jK c4
   clear c4
   replace H := Ip H; obtain ⟨c5, H⟩ := H
   have c5b0 := eq_true c5
   have c5b1 := jK c5
   clear c5
   obtain ⟨y257, hy257⟩ : ∃ y_ : List Int, y_ = (List.replicate (ji3 : Int).toNat 0) := ⟨_, rfl⟩
   replace H : (if 0 < (y257.length : Int) then (spec_piWays.l0 k (y257.set (0 : Int).toNat 1) l0 (l0.length : Int) 0) else (none)) = some r := by first | (rw [hy257]; with_reducible exact H) | (have H2_ := (Option.bind_some _ _).symm.trans H; rw [hy257]; with_reducible exact H2_) | (have H2_ := (Option.bind_some _ _).symm.trans H; with_reducible exact H2_) | with_reducible exact H | (rw [hy257]; exact H) | exact H
   have Ny257 := jA hy257
   clear hy257
   replace H := Ip H; obtain ⟨c6, H⟩ := H
   have c6b0 := jK c6
   have c6b1 : decide (0 < y257.length) = true := jK (by omega)
   clear c6
   obtain ⟨y260, hy260⟩ : ∃ y_ : List Int, y_ = (y257.set (0 : Int).toNat 1) := ⟨_, rfl⟩
   replace H : (spec_piWays.l0 k y260 l0 (l0.length : Int) 0) = some r := by first | (rw [hy260]; with_reducible exact H) | (have H2_ := (Option.bind_some _ _).symm.trans H; rw [hy260]; with_reducible exact H2_) | (have H2_ := (Option.bind_some _ _).symm.trans H; with_reducible exact H2_) | with_reducible exact H | (rw [hy260]; exact H) | exact H
   have Ny260 := jA hy260
   clear hy260
   have H' := jA H
   clear H
   go_enter Try.func202, Try.ntmps202
   go_wp2_with (first | (refine Gl 8 #[.slice A0 l0.length c0] Try.func186 ?_; (with_reducible refine (spec_piSum.calls k _ _ l0 t256 _ (Cm HR0.out) HC0.out A2.out).mono ?_); rintro e w' ⟨rfl, ⟨nd, rfl⟩⟩; refine ⟨_, rfl, ?_⟩) | ((with_reducible refine gate_dst (N := 10) rfl ?_); refine Kd.R_make (Kd.int .i64) _ 3 rfl (N := 10) rfl 24 _ _ rfl ji3 rfl rfl Try.underlying24 (.int .i64 0) 8 info3 rfl (by decide) (by omega) 0 (ok := fun _ => True) (okp := fun _ => True) rfl (fun _ hk => hk) trivial (Oa) (Nat.le_trans (Nat.mul_le_mul_right _ (Oa : ji3.toNat ≤ 35184372088832)) (by omega)) (jU _ _) (jX _) ?_; intro v258 w8 ho9 hb hg_ hnew_; clear hg_ hnew_; (first | rw [← Ny257.out] at ho9 | (simp only [Int.reduceToNat] at ho9; rw [← Ny257.out] at ho9)); have HO259 := jA (jf ho9 (jL Ub)); replace HB := jA (jB Ub hb); clear hb ho9; have p7 : 0 ≤ (0 : Int) := (by omega); have q7 : (0 : Int) < ((y257.length : Int) : Int) := Oa; have qi7 : (0 < y257.length) = True := eq_true (by omega); obtain ⟨go7, co7, eo7, gb7, gl7, cl7, HG7⟩ := Kd.R_form HO259.out (by omega); (first | cases eo7 | (injection eo7 with ea_ en_ ec_; (first | subst ea_ | (injection ea_ with ea_; subst ea_)); subst ec_; clear en_)); have GB7 := jA gb7; have GG7 := jA HG7; clear gb7 gl7 HG7; obtain ⟨hx7_0, hf7_0⟩ := Kd.R_celln 0 HO259.out (0 : Int) p7 q7; (try rw [show ((0 : Int)).toNat = 0 from rfl] at hx7_0); (try simp only [Nat.reduceMul, Nat.zero_mul, Nat.zero_add, Nat.reduceAdd] at hx7_0); (try rw [show ((0 : Int)).toNat = 0 from rfl] at hf7_0); (try simp only [Nat.reduceMul, Nat.zero_mul, Nat.zero_add, Nat.reduceAdd] at hf7_0); replace p7 := eq_true p7; replace q7 := eq_true q7; obtain ⟨hy10_, hz10_⟩ := Kd.R_celln 0 HO259.out (0 : Int) (by omega) (Oa); (try simp only [Int.reduceToNat, Int.toNat_zero, Int.toNat_ofNat, Nat.reduceMul, Nat.zero_mul, Nat.zero_add] at hy10_ hz10_); (try rw [show ((0 : Int)).toNat = 0 from rfl] at hy10_); (try rw [show ((0 : Int)).toNat = 0 from rfl] at hz10_); have HP10 := Kd.R_putg HO259.out (0 : Int) 1) | ((with_reducible refine gate_store (t := 3) (p := 12) rfl ?_); refine store_event (t := 3) (p := 12) (v := ?vo_w11) (w1 := (w8.setCell ⟨go7, (0 : Int).toNat, none⟩ (.int .i64 1))) ?hg ?ho ?hn ?hr ?_; (case ho => rfl); (case hg => rfl); (case hn => rfl); (case hr => first | (go_simp; done) | (go_simp; rfl)); intro w11 hw; have hg : w8.grownBy w11 (some go7) := (by rw [hw]; exact HP10.2); have hp_ : Kd.R (Kd.int .i64) 3 w11 w.heap.size (fun _ => True) (.slice (some ⟨go7, 0, none⟩) y257.length co7) y260 := (by rw [hw, Ny260.out]; exact HP10.1); clear HP10; replace HO259 := jA (hp_); replace HB := jA ((by rw [hw]; exact jH (HB.out) GB7.out : Below w.heap.size w w11)); clear hg hw hp_))
   go_loopg [15] k (fun kq v15 w' => ∃ (x3_1 : List Int) (x15_1 : Int), v15 = .int .i64 x15_1 ∧ Aside0 (spec_piWays.l0 kq x3_1 l0 (l0.length : Int) x15_1 = some r) ∧ Aside0 (kq ≤ k) ∧ Aside0 (Kd.R (Kd.int .i64) 3 w' w.heap.size (fun _ => True) (.slice (some ⟨go7, 0, none⟩) y257.length co7) x3_1) ∧ Aside0 (Below w.heap.size w w'))
   case atStart => exact ⟨(y260), (0), Rs, H', ⟨jX _⟩, ⟨Rm HO259.out⟩, ⟨Ub⟩⟩
   case round =>
    clear H'
    try clear c4
    try clear c4b0
    try clear c4b1
    try clear c5
    try clear c5b0
    try clear c5b1
    try clear c6
    try clear c6b0
    try clear c6b1
    try clear p7
    try clear q7
    try clear qi7
    try clear hx7_0
    try clear p7
    try clear q7
    obtain ⟨x3_1, x15_1, rfl, HA, HK1, HO_3, HB⟩ := hrel
    have hl3_1 := (Kd.R_reads' HO_3.out).1
    rw [hl3_1] at HO_3
    (try simp only [hl3_1])
    cases gk with
    | zero => exact absurd HA.out (by simp [spec_piWays.l0])
    | succ k1 =>
     have H := HA.out
     clear HA
     simp only [spec_piWays.l0] at H
     replace H := Ic H; rcases H with ⟨c12, H⟩ | ⟨c12, H⟩
     · have c12b0 := jK c12
       clear c12
       replace H := Ip H; obtain ⟨c13, H⟩ := H
       have c13b0 := jK c13
       clear c13
       replace H := Ip H; obtain ⟨c14, H⟩ := H
       have c14b0 := jK c14
       clear c14
       have H' := jA H
       clear H
       obtain ⟨p261, q261, ad261, e261, hx261_0⟩ := Ai HR0.out x15_1
       cases e261
       replace hx261_0 := (HB.out.cell (World.block_lt_of_cell? w _ hx261_0)).trans hx261_0
       go_wp2
       go_loopg [6] k1 (fun kq v6 w' => ∃ (x3_2 : List Int) (x6_2 : Int), v6 = .int .i64 x6_2 ∧ Aside0 (spec_piWays.l1 kq x3_2 (rd l0 x15_1) x6_2 l0 (l0.length : Int) x15_1 = some r) ∧ Aside0 (kq ≤ k1) ∧ Aside0 (Kd.R (Kd.int .i64) 3 w' w.heap.size (fun _ => True) (.slice (some ⟨go7, 0, none⟩) x3_1.length co7) x3_2) ∧ Aside0 (Below w.heap.size w w'))
       case atStart => exact ⟨(x3_1), (wrap64 ((x3_1.length : Int) - 1)), Rs, H', ⟨jX _⟩, ⟨by (try simp only [hl3_1]); (with_reducible repeat apply Xq); exact HO_3.out⟩, ⟨Ub⟩⟩
       case round =>
        clear H'
        try clear c4
        try clear c4b0
        try clear c4b1
        try clear c5
        try clear c5b0
        try clear c5b1
        try clear c6
        try clear c6b0
        try clear c6b1
        try clear p7
        try clear q7
        try clear qi7
        try clear c12
        try clear c12b0
        try clear c13
        try clear c13b0
        try clear c14
        try clear c14b0
        try clear hx261_0
        try clear hx7_0
        try clear p261
        try clear p7
        try clear q261
        try clear q7
        obtain ⟨x3_2, x6_2, rfl, HA, HK2, HO_3, HB⟩ := hrel
        have hl3_2 := (Kd.R_reads' HO_3.out).1
        rw [hl3_2] at HO_3
        (try simp only [hl3_2])
        cases gk with
        | zero => exact absurd HA.out (by simp [spec_piWays.l1])
        | succ k2 =>
         have H := HA.out
         clear HA
         simp only [spec_piWays.l1] at H
         replace H := Ic H; rcases H with ⟨c15, H⟩ | ⟨c15, H⟩
         · have c15b0 : decide ((rd l0 x15_1) ≤ x6_2) = true := jK c15
           clear c15
           replace H := Ip H; obtain ⟨c16, H⟩ := H
           have c16b0 := jK c16
           clear c16
           replace H := Ip H; obtain ⟨c17, H⟩ := H
           have c17b0 := jK c17
           clear c17
           obtain ⟨ji18, hji18⟩ : ∃ j_ : Int, (wrap64 (x6_2 - (rd l0 x15_1))) = j_ := ⟨_, rfl⟩
           replace H : (if 0 ≤ (ji18) then (if (ji18) < (x3_2.length : Int) then (spec_piWays.l1 k2 (x3_2.set (x6_2 : Int).toNat (wrap64 ((rd x3_2 x6_2) + (rd x3_2 (ji18))))) (rd l0 x15_1) (wrap64 (x6_2 - 1)) l0 (l0.length : Int) x15_1) else (none)) else (none)) = some r := by first | (rw [hji18] at H; exact H) | (simp only [hji18] at H ⊢; exact H)
           have hji18w : (IntKind.i64.wrap (x6_2 - (rd l0 x15_1))) = ji18 := (i64_w _).trans hji18
           replace H := Ip H; obtain ⟨c19, H⟩ := H
           have c19b0 := jK c19
           clear c19
           replace H := Ip H; obtain ⟨c20, H⟩ := H
           have c20b0 := jK c20
           clear c20
           obtain ⟨y264, hy264⟩ : ∃ y_ : List Int, y_ = (x3_2.set (x6_2 : Int).toNat (wrap64 ((rd x3_2 x6_2) + (rd x3_2 (ji18))))) := ⟨_, rfl⟩
           replace H : (spec_piWays.l1 k2 y264 (rd l0 x15_1) (wrap64 (x6_2 - 1)) l0 (l0.length : Int) x15_1) = some r := by first | (rw [hy264]; with_reducible exact H) | (have H2_ := (Option.bind_some _ _).symm.trans H; rw [hy264]; with_reducible exact H2_) | (have H2_ := (Option.bind_some _ _).symm.trans H; with_reducible exact H2_) | with_reducible exact H | (rw [hy264]; exact H) | exact H
           have Ny264 := jA hy264
           clear hy264
           have H' := jA H
           clear H
           try go_wp2
           replace HO_3 := jA (Kd.R_drew HO_3.out); replace HB := jA (jQ HB.out)
           have p262 : 0 ≤ (x6_2 : Int) := Oa
           have q262 : x6_2 < (x3_2.length : Int) := Oa
           obtain ⟨ad262, e262, hx262_0⟩ := Kd.at_int (Kd.R_reads' HO_3.out).2.2 x6_2 p262 q262
           obtain rfl : (⟨go7, 0, none⟩ : Addr) = ad262 := (by injection e262)
           (first | simp only [add_plain] at hx262_0 | simp only [add_at] at hx262_0 | simp only [Addr.add, Nat.zero_add] at hx262_0 | skip)
           replace p262 := eq_true p262
           replace q262 := eq_true q262
           have p263 : 0 ≤ ((ji18) : Int) := Oa
           have q263 : (ji18) < (x3_2.length : Int) := Oa
           obtain ⟨ad263, e263, hx263_0⟩ := Kd.at_int (Kd.R_reads' HO_3.out).2.2 (ji18) p263 q263
           obtain rfl : (⟨go7, 0, none⟩ : Addr) = ad263 := (by injection e263)
           (first | simp only [add_plain] at hx263_0 | simp only [add_at] at hx263_0 | simp only [Addr.add, Nat.zero_add] at hx263_0 | skip)
           replace p263 := eq_true p263
           replace q263 := eq_true q263
           have p21 : 0 ≤ (x6_2 : Int) := Oa
           have q21 : (x6_2 : Int) < ((x3_2.length : Int) : Int) := Oa
           obtain ⟨hx21_0, hf21_0⟩ := Kd.R_celln 0 HO_3.out (x6_2 : Int) p21 q21
           replace p21 := eq_true p21
           replace q21 := eq_true q21
           have HP23 := Kd.R_putn HO_3.out (x6_2 : Int) (wrap64 ((rd x3_2 x6_2) + (rd x3_2 (ji18))))
           rw [← Ny264.out] at HP23
           have HQ23 := jA HP23
           clear HP23
           refine start_ (n := 13) (S := fun w' => w'.cell? ⟨go7, (x6_2).toNat, none⟩ = some (.int .i64 (rd x3_2 x6_2)) ∧ w'.cell? ⟨go7, ((ji18)).toNat, none⟩ = some (.int .i64 (rd x3_2 (ji18)))) (ds := [12]) #[false, false, false, false, false, false, false, false, false, false, false, false, false] (by kernel_rfl) rfl rfl ⟨hx262_0, hx263_0⟩ (fun hHeld => ?_); refine with_tabW spec_piWays.tab9 spec_piWays.bits9 (fun HT_ HW_ => ?_)
           generalize wr.drew = w22 at HO_3 HB HQ23 hf21_0 hx21_0 hx262_0 hx263_0 hHeld ⊢
           refine Pu 0 27 #[true, false, false, false, false, false, false, false, false, false, false, false, false] HT_.out ?_
           refine Pu 1 28 #[true, true, false, false, false, false, false, false, false, false, false, false, false] HT_.out ?_
           refine Pu 2 29 #[true, true, true, false, false, false, false, false, false, false, false, false, false] HT_.out ?_
           refine Pu 4 31 #[true, true, true, false, true, false, false, false, false, false, false, false, false] HT_.out ?_
           refine Pu 5 32 #[true, true, true, false, true, true, false, false, false, false, false, false, false] HT_.out ?_
           refine Pu 6 33 #[true, true, true, false, true, true, true, false, false, false, false, false, false] HT_.out ?_
           refine Pu 7 34 #[true, true, true, false, true, true, true, true, false, false, false, false, false] HT_.out ?_
           refine Pu 8 35 #[true, true, true, false, true, true, true, true, true, false, false, false, false] HT_.out ?_
           refine take_ (i := 3) (N := some 30) (v := ?_) (a' := ?_) #[true, true, true, true, true, true, true, true, true, false, false, false, false] rfl rfl (take_ofW HT_.out HW_.out (by kernel_rfl)) (fun _ _ _ h => h) (Or.inl ⟨by rfl, ?_⟩) hHeld ?_ ?_
           rotate_left
           · rintro w' ⟨s0, s1⟩
             go_simp
             with_reducible rfl
           rotate_left
           · simp only [Act.put, List.setIfInBounds_toArray, List.set_cons_zero, List.set_cons_succ, i64_w, i32_w]
             rfl
           refine take_ (i := 9) (N := some 36) (v := ?_) (a' := ?_) #[true, true, true, true, true, true, true, true, true, true, false, false, false] rfl rfl (take_ofW HT_.out HW_.out (by kernel_rfl)) (fun _ _ _ h => h) (Or.inl ⟨by rfl, ?_⟩) hHeld ?_ ?_
           rotate_left
           · rintro w' ⟨s0, s1⟩
             go_simp
             with_reducible rfl
           rotate_left
           · simp only [Act.put, List.setIfInBounds_toArray, List.set_cons_zero, List.set_cons_succ, i64_w, i32_w]
             rfl
           refine Pu 10 37 #[true, true, true, true, true, true, true, true, true, true, true, false, false] HT_.out ?_
           refine Pu 11 38 #[true, true, true, true, true, true, true, true, true, true, true, true, false] HT_.out ?_
           refine last_ (i := 12) (N := none) #[true, true, true, true, true, true, true, true, true, true, true, true, true] rfl rfl (one_of HT_.out (by kernel_rfl)) (by decide) (fun K hK => ?_)
           refine skip_ (w1 := ?_) (by rfl) rfl ?_ ?_
           rotate_left
           · go_simp
             rfl
           refine hK.out _ _ ?_
           clear hK K
           refine done_ (done_of HT_.out (by kernel_rfl)) ?_
           try go_wp2
           (try simp only [← hl3_2])
           go_roundg k2
           case measure => have := HK1.out; have := HK2.out; omega
           case rel => exact ⟨(y264), (wrap64 (x6_2 - 1)), Rs, H', ⟨by have := HK1.out; have := HK2.out; omega⟩, ⟨by (try simp only [hl3_1]); (try simp only [hl3_2]); (with_reducible repeat apply Xq); exact HQ23.out⟩, ⟨by repeat (first | (with_reducible first | exact HB.out | apply Xa | refine jH ?_ GB7.out) | exact HB.out)⟩⟩
         have c15b0 : decide ((rd l0 x15_1) ≤ x6_2) = false := jV c15
         clear c15
         have H' := jA H
         clear H
         go_wp2
         (try simp only [← hl3_1, ← hl3_2])
         go_roundg k2
         case measure => have := HK1.out; have := HK2.out; omega
         case rel => exact ⟨(x3_2), (wrap64 (x15_1 + 1)), Rs, H', ⟨by have := HK1.out; have := HK2.out; omega⟩, ⟨by (try simp only [hl3_1]); (try simp only [hl3_2]); (with_reducible repeat apply Xq); exact HO_3.out⟩, ⟨Ub⟩⟩
     have c12b0 := jV c12
     clear c12
     obtain rfl := jM H
     go_wp2
     go_ret
     exact ⟨_, by first | rfl | (simp [errW_none, errW_some] <;> rfl) | (simp only [← hji3]; first | rfl | (simp [errW_none, errW_some] <;> rfl)) | (simp [*, errW_none, errW_some] <;> rfl), Rm HO_3.out, Ub⟩
 exact absurd H (by simp)

/-! ### spec_piMake: function 204 -/
def spec_piMake.f (k : Nat) (l0 : List Int) (a1 : Int) : Option (Int) := (spec_piWays.f k l0).bind fun t265 => (if a1 ≥ (t265.length : Int) then (some 0) else (if 0 ≤ a1 then (if a1 < (t265.length : Int) then (some (rd t265 a1)) else (none)) else (none)))
theorem spec_piMake.calls (k : Nat) (A0 : Option Addr) (c0 : Nat) (l0 : List Int) (a1 : Int) (r : Int) (w : World) (hr0 : Kd.C (Kd.int .i64) w A0 l0.length l0) (hc0 : l0.length ≤ c0) (h : spec_piMake.f k l0 a1 = some r) :
 Calls Try.prog 204 #[.slice A0 l0.length c0, .int .i64 a1] w fun e w' => e = .returned (.int .i64 r) ∧ Below w.heap.size w w' := by
 have HR0 := jA hr0
 have HC0 := jA hc0
 clear hr0 hc0
 have HB := jA (jU w.heap.size w)
 have H := h; unfold spec_piMake.f at H
 clear h
 replace H := jD H
 obtain ⟨t265, A30, H⟩ := H
 have A3 := jA A30
 clear A30
 replace H := Ic H; rcases H with ⟨c4, H⟩ | ⟨c4, H⟩
 · have c4b0 : decide ((t265.length : Int) ≤ a1) = true := jK c4
   clear c4
   obtain rfl := jM H
   go_enter Try.func204, Try.ntmps204
   go_wp2_with (first | (refine Gl 7 #[.slice A0 l0.length c0] Try.func202 ?_; (with_reducible refine (spec_piWays.calls k _ _ l0 t265 _ (Cm HR0.out) HC0.out A3.out).mono ?_); rintro e w5 ⟨v266, rfl, ho0, hb⟩; refine ⟨_, rfl, ?_⟩; have HO267 := jA (jf ho0 (jL Ub)); replace HB := jA (jB Ub hb); clear hb ho0; obtain ⟨Ao6, co6, eo6⟩ := jq HO267.out; subst eo6))
   go_ret
   exact ⟨Re, Ub⟩
 have c4b0 : decide ((t265.length : Int) ≤ a1) = false := jV c4
 clear c4
 replace H := Ic H; rcases H with ⟨c7, H⟩ | ⟨c7, H⟩
 · have c7b0 := jK c7
   clear c7
   replace H := Ip H; obtain ⟨c8, H⟩ := H
   have c8b0 := jK c8
   clear c8
   obtain rfl := jM H
   go_enter Try.func204, Try.ntmps204
   go_wp2_with (first | (refine Gl 7 #[.slice A0 l0.length c0] Try.func202 ?_; (with_reducible refine (spec_piWays.calls k _ _ l0 t265 _ (Cm HR0.out) HC0.out A3.out).mono ?_); rintro e w9 ⟨v266, rfl, ho0, hb⟩; refine ⟨_, rfl, ?_⟩; have HO267 := jA (jf ho0 (jL Ub)); replace HB := jA (jB Ub hb); clear hb ho0; obtain ⟨Ao10, co10, eo10⟩ := jq HO267.out; subst eo10; have p268 : 0 ≤ (a1 : Int) := Oa; have q268 : a1 < (t265.length : Int) := Oa; obtain ⟨ad268, e268, hx268_0⟩ := Kd.at_int (Kd.R_reads' HO267.out).2.2 a1 p268 q268; cases e268; replace p268 := eq_true p268; replace q268 := eq_true q268))
   go_ret
   exact ⟨Re, Ub⟩
 exact absurd H (by simp)

/-! ### spec_pzValue: function 286 -/
def spec_pzValue.l0 : Nat → Int → Int → List Int → Int → Int → Option (Int)
 | 0, _, _, _, _, _ => none
 | k + 1, x1, x7, x34, x35, x36 => if x36 < x35 then (if 0 ≤ x36 then (if x36 < (x34.length : Int) then (if (rd x34 x36) = x1 then (spec_pzValue.l0 k x1 (wrap64 (x7 + 1)) x34 x35 (wrap64 (x36 + 1))) else (spec_pzValue.l0 k x1 x7 x34 x35 (wrap64 (x36 + 1)))) else (none)) else (none)) else (some x7)
def spec_pzValue.f (k : Nat) (a0 : Int) (a1 : Int) (l2 : List Int) : Option (Int) := if a0 = 0 then (some (l2.length : Int)) else (if a0 = 1 then ((spec_piSum.f k l2).bind fun t269 => (some t269)) else (if a0 = 2 then ((spec_piMake.f k l2 a1).bind fun t270 => ((spec_l1Least.f 1 t270).bind fun t271 => (some t271))) else (if a0 = 3 then ((spec_piRun.f k l2).bind fun t272 => (some t272)) else (if a0 = 4 then ((spec_piMake.f k l2 a1).bind fun t273 => (some t273)) else (spec_pzValue.l0 k a1 0 l2 (l2.length : Int) 0)))))
theorem spec_pzValue.calls (k : Nat) (a0 : Int) (a1 : Int) (A2 : Option Addr) (c2 : Nat) (l2 : List Int) (r : Int) (w : World) (hr2 : Kd.C (Kd.int .i64) w A2 l2.length l2) (hc2 : l2.length ≤ c2) (h : spec_pzValue.f k a0 a1 l2 = some r) :
 Calls Try.prog 286 #[.int .i64 a0, .int .i64 a1, .slice A2 l2.length c2] w fun e w' => e = .returned (.int .i64 r) ∧ Below w.heap.size w w' := by
 have HR2 := jA hr2
 have HC2 := jA hc2
 clear hr2 hc2
 have HB := jA (jU w.heap.size w)
 have H := h; unfold spec_pzValue.f at H
 clear h
 replace H := Ic H; rcases H with ⟨c4, H⟩ | ⟨c4, H⟩
 · have c4b0 : (a0 == 0) = true := beq_iff_eq.mpr c4
   have c4b1 := bne_eq_false_iff_eq.mpr c4
   clear c4
   obtain rfl := jM H
   go_enter Try.func286, Try.ntmps286
   go_wp2
   go_ret
   exact ⟨Re, Ub⟩
 have c4b0 : (a0 == 0) = false := beq_eq_false_iff_ne.mpr c4
 have c4b1 := bne_iff_ne.mpr c4
 replace H := Ic H; rcases H with ⟨c5, H⟩ | ⟨c5, H⟩
 · have c5b0 : (a0 == 1) = true := beq_iff_eq.mpr c5
   have c5b1 := bne_eq_false_iff_eq.mpr c5
   clear c5
   replace H := jD H
   obtain ⟨t269, A60, H⟩ := H
   have A6 := jA A60
   clear A60
   obtain rfl := jM H
   go_enter Try.func286, Try.ntmps286
   go_wp2_with (first | (refine Gl 18 #[.slice A2 l2.length c2] Try.func186 ?_; (with_reducible refine (spec_piSum.calls k _ _ l2 t269 _ (Cm HR2.out) HC2.out A6.out).mono ?_); rintro e w' ⟨rfl, ⟨nd, rfl⟩⟩; refine ⟨_, rfl, ?_⟩))
   go_ret
   exact ⟨Re, Ub⟩
 have c5b0 : (a0 == 1) = false := beq_eq_false_iff_ne.mpr c5
 have c5b1 := bne_iff_ne.mpr c5
 replace H := Ic H; rcases H with ⟨c7, H⟩ | ⟨c7, H⟩
 · have c7b0 : (a0 == 2) = true := beq_iff_eq.mpr c7
   have c7b1 := bne_eq_false_iff_eq.mpr c7
   clear c7
   replace H := jD H
   obtain ⟨t270, A80, H⟩ := H
   have A8 := jA A80
   clear A80
   replace H := jD H
   obtain ⟨t271, A90, H⟩ := H
   have A9 := jA A90
   clear A90
   obtain rfl := jM H
   go_enter Try.func286, Try.ntmps286
   go_wp2_with (first | (refine Gl 23 #[.slice A2 l2.length c2, .int .i64 a1] Try.func204 ?_; (with_reducible refine (spec_piMake.calls k _ _ l2 a1 t270 _ (Cm HR2.out) HC2.out A8.out).mono ?_); rintro e w10 ⟨rfl, hb⟩; refine ⟨_, rfl, ?_⟩; replace HB := jA (jB Ub hb); clear hb) | (refine Gl 24 #[.int .i64 1, .int .i64 t270] Try.func187 ?_; (with_reducible refine (spec_l1Least.calls 1 t270 t271 _ A9.out).mono ?_); rintro e w' ⟨rfl, ⟨nd, rfl⟩⟩; refine ⟨_, rfl, ?_⟩))
   go_ret
   exact ⟨Re, Ub⟩
 have c7b0 : (a0 == 2) = false := beq_eq_false_iff_ne.mpr c7
 have c7b1 := bne_iff_ne.mpr c7
 replace H := Ic H; rcases H with ⟨c11, H⟩ | ⟨c11, H⟩
 · have c11b0 : (a0 == 3) = true := beq_iff_eq.mpr c11
   have c11b1 := bne_eq_false_iff_eq.mpr c11
   clear c11
   replace H := jD H
   obtain ⟨t272, A120, H⟩ := H
   have A12 := jA A120
   clear A120
   obtain rfl := jM H
   go_enter Try.func286, Try.ntmps286
   go_wp2_with (first | (refine Gl 28 #[.slice A2 l2.length c2] Try.func200 ?_; (with_reducible refine (spec_piRun.calls k _ _ l2 t272 _ (Cm HR2.out) HC2.out A12.out).mono ?_); rintro e w' ⟨rfl, ⟨nd, rfl⟩⟩; refine ⟨_, rfl, ?_⟩))
   go_ret
   exact ⟨Re, Ub⟩
 have c11b0 : (a0 == 3) = false := beq_eq_false_iff_ne.mpr c11
 have c11b1 := bne_iff_ne.mpr c11
 replace H := Ic H; rcases H with ⟨c13, H⟩ | ⟨c13, H⟩
 · have c13b0 : (a0 == 4) = true := beq_iff_eq.mpr c13
   have c13b1 := bne_eq_false_iff_eq.mpr c13
   clear c13
   replace H := jD H
   obtain ⟨t273, A140, H⟩ := H
   have A14 := jA A140
   clear A140
   obtain rfl := jM H
   go_enter Try.func286, Try.ntmps286
   go_wp2_with (first | (refine Gl 33 #[.slice A2 l2.length c2, .int .i64 a1] Try.func204 ?_; (with_reducible refine (spec_piMake.calls k _ _ l2 a1 t273 _ (Cm HR2.out) HC2.out A14.out).mono ?_); rintro e w15 ⟨rfl, hb⟩; refine ⟨_, rfl, ?_⟩; replace HB := jA (jB Ub hb); clear hb))
   go_ret
   exact ⟨Re, Ub⟩
 have c13b0 : (a0 == 4) = false := beq_eq_false_iff_ne.mpr c13
 have c13b1 := bne_iff_ne.mpr c13
 have H' := jA H
 clear H
 go_enter Try.func286, Try.ntmps286
 go_wp2
 go_loopg [7, 36] k (fun kq v7 v36 w' => ∃ (x7_1 : Int) (x36_1 : Int), v7 = .int .i64 x7_1 ∧ v36 = .int .i64 x36_1 ∧ Aside0 (spec_pzValue.l0 kq a1 x7_1 l2 (l2.length : Int) x36_1 = some r) ∧ Aside0 (kq ≤ k) ∧ Aside0 (Below w.heap.size w w'))
 case atStart => exact ⟨(0), (0), Rs, Rs, H', ⟨jX _⟩, ⟨Ub⟩⟩
 case round =>
  clear H'
  try clear c2
  try clear c4
  try clear c4b0
  try clear c4b1
  try clear c5
  try clear c5b0
  try clear c5b1
  try clear c7
  try clear c7b0
  try clear c7b1
  try clear c11
  try clear c11b0
  try clear c11b1
  try clear c13
  try clear c13b0
  try clear c13b1
  obtain ⟨x7_1, x36_1, rfl, rfl, HA, HK1, HB⟩ := hrel
  cases gk with
  | zero => exact absurd HA.out (by simp [spec_pzValue.l0])
  | succ k1 =>
   have H := HA.out
   clear HA
   simp only [spec_pzValue.l0] at H
   replace H := Ic H; rcases H with ⟨c16, H⟩ | ⟨c16, H⟩
   · have c16b0 := jK c16
     clear c16
     replace H := Ip H; obtain ⟨c17, H⟩ := H
     have c17b0 := jK c17
     clear c17
     replace H := Ip H; obtain ⟨c18, H⟩ := H
     have c18b0 := jK c18
     clear c18
     replace H := Ic H; rcases H with ⟨c19, H⟩ | ⟨c19, H⟩
     · have c19b0 : ((rd l2 x36_1) == a1) = true := beq_iff_eq.mpr c19
       have c19b1 := bne_eq_false_iff_eq.mpr c19
       clear c19
       have H' := jA H
       clear H
       obtain ⟨p274, q274, ad274, e274, hx274_0⟩ := Ai HR2.out x36_1
       cases e274
       replace hx274_0 := (HB.out.cell (World.block_lt_of_cell? w _ hx274_0)).trans hx274_0
       go_wp2
       go_roundg k1
       case measure => have := HK1.out; omega
       case rel => exact ⟨(wrap64 (x7_1 + 1)), (wrap64 (x36_1 + 1)), Rs, Rs, H', ⟨by have := HK1.out; omega⟩, ⟨Ub⟩⟩
     have c19b0 : ((rd l2 x36_1) == a1) = false := beq_eq_false_iff_ne.mpr c19
     have c19b1 := bne_iff_ne.mpr c19
     have H' := jA H
     clear H
     obtain ⟨p274, q274, ad274, e274, hx274_0⟩ := Ai HR2.out x36_1
     cases e274
     replace hx274_0 := (HB.out.cell (World.block_lt_of_cell? w _ hx274_0)).trans hx274_0
     go_wp2
     go_roundg k1
     case measure => have := HK1.out; omega
     case rel => exact ⟨(x7_1), (wrap64 (x36_1 + 1)), Rs, Rs, H', ⟨by have := HK1.out; omega⟩, ⟨Ub⟩⟩
   have c16b0 := jV c16
   clear c16
   obtain rfl := jM H
   go_wp2
   go_ret
   exact ⟨Re, Ub⟩

/-! ### spec_pzOf: function 219 -/
def spec_pzOf.f (k : Nat) (a0 : Int) (a1 : Int) (l2 : List Int) : Option (Int × Int × Int) := (spec_pzAlone.f a0).bind fun t276 => (if t276 = true then ((spec_pzValue.f k a0 0 l2).bind fun t277 => (some (a0, t277, 0))) else ((spec_pzValue.f k a0 a1 l2).bind fun t278 => (some (a0, a1, t278))))
theorem spec_pzOf.calls (k : Nat) (a0 : Int) (a1 : Int) (A2 : Option Addr) (c2 : Nat) (l2 : List Int) (r1 : Int) (r2 : Int) (r3 : Int) (w : World) (hr2 : Kd.C (Kd.int .i64) w A2 l2.length l2) (hc2 : l2.length ≤ c2) (h : spec_pzOf.f k a0 a1 l2 = some (r1, r2, r3)) :
 Calls Try.prog 219 #[.int .i64 a0, .int .i64 a1, .slice A2 l2.length c2] w fun e w' => e = .returned (.agg #[.int .i64 r1, .int .i64 r2, .int .i64 r3]) ∧ Below w.heap.size w w' := by
 have hu58 := Try.underlying58
 have HR2 := jA hr2
 have HC2 := jA hc2
 clear hr2 hc2
 have HB := jA (jU w.heap.size w)
 have H := h; unfold spec_pzOf.f at H
 clear h
 replace H := jD H
 obtain ⟨t276, A40, H⟩ := H
 have A4 := jA A40
 clear A40
 replace H := Iw H; rcases H with ⟨rfl, H⟩ | ⟨rfl, H⟩
 · replace H := jD H
   obtain ⟨t277, A60, H⟩ := H
   have A6 := jA A60
   clear A60
   simp only [Option.some.injEq, Prod.mk.injEq] at H
   obtain ⟨rfl, rfl, rfl⟩ := H
   go_enter Try.func219, Try.ntmps219
   go_wp2_with (first | ((with_reducible refine gate_dst (N := 6) rfl ?_); refine box_event ?hg (N := 6) ?hd (cs := #[.int .i64 0, .int .i64 0, .int .i64 0]) (t := 58) ?hr ?_; (case hd => rfl); (case hg => rfl); (case hr => first | (go_simp; done) | (go_simp; rfl)); intro gb275 hg w7 hbox hb; have BK275 := jA (hbox); have GW275 := jA ((by rw [hg]; exact (jL Ub) : w.heap.size ≤ gb275)); have GE275 := jA ((by rw [hg]; exact (jL Ub) : w.heap.size ≤ gb275)); replace HB := jA (jB Ub hb); clear hb hbox hg) | (refine Gl 8 #[.int .i64 a0] Try.func285 ?_; (with_reducible refine (spec_pzAlone.calls a0 true _ A4.out).mono ?_); rintro e w' ⟨rfl, ⟨nd, rfl⟩⟩; refine ⟨_, rfl, ?_⟩; (try (rw [drewN_self w7]; generalize hq_ : World.drewN w7 _ = w7; have n0_ : Aside0 (w7.heap[gb275]? = some (.cells #[.int .i64 0, .int .i64 0, .int .i64 0] 58 (0, 0))) := ⟨by rw [← hq_]; exact (Bm BK275.out)⟩; have n1_ : Aside0 (Below w.heap.size w w7) := ⟨by rw [← hq_]; exact Ub⟩; clear BK275 HB hq_; have BK275 := n0_; have HB := n1_; clear n0_ n1_; (try have hcyBK275_0 : w7.cell? ⟨gb275, 0, none⟩ = some (.int .i64 0) := (jE BK275.out 0).trans rfl); (try have hcyBK275_1 : w7.cell? ⟨gb275, 1, none⟩ = some (.int .i64 0) := (jE BK275.out 1).trans rfl); (try have hcyBK275_2 : w7.cell? ⟨gb275, 2, none⟩ = some (.int .i64 0) := (jE BK275.out 2).trans rfl)))) | (refine Gl 12 #[.int .i64 a0, .int .i64 0, .slice A2 l2.length c2] Try.func286 ?_; (with_reducible refine (spec_pzValue.calls k a0 0 _ _ l2 t277 _ (Cm (jY HR2.out HB.out)) HC2.out A6.out).mono ?_); rintro e w8 ⟨rfl, hb⟩; refine ⟨_, rfl, ?_⟩; replace BK275 := jA (jN (g := gb275) (o := .cells #[.int .i64 0, .int .i64 0, .int .i64 0] 58 (0, 0)) (Bm BK275.out) hb); replace HB := jA (jB Ub hb); clear hb; have hcz9_0 : w8.cell? ⟨gb275, 0, none⟩ = some (.int .i64 0) := (jE BK275.out 0).trans rfl; have hcz9_1 : w8.cell? ⟨gb275, 1, none⟩ = some (.int .i64 0) := (jE BK275.out 1).trans rfl; have hcz9_2 : w8.cell? ⟨gb275, 2, none⟩ = some (.int .i64 0) := (jE BK275.out 2).trans rfl; have hfz9_0 := jF BK275.out 0; have hfz9_1 := jF BK275.out 1; have hfz9_2 := jF BK275.out 2))
   refine bodyPost_ret (results_cell_row rfl _ _ gb275 58 #[.int .i64 a0, .int .i64 t277, .int .i64 0] (0, 0) _ rfl (by (with_reducible repeat refine Xg ?_); refine jp (cs := #[.int .i64 a0, .int .i64 t277, .int .i64 0]) ?_ 2 _ rfl; (with_reducible repeat refine Xg ?_); refine jp (cs := #[.int .i64 a0, .int .i64 0, .int .i64 0]) ?_ 1 _ rfl; (with_reducible repeat refine Xg ?_); refine jp (cs := #[.int .i64 0, .int .i64 0, .int .i64 0]) ?_ 0 _ rfl; (with_reducible repeat refine Xg ?_); exact BK275.out) Try.underlying58 rfl (by kernel_rfl)) rfl ?_
   exact ⟨Re, Ub⟩
 replace H := jD H
 obtain ⟨t278, A100, H⟩ := H
 have A10 := jA A100
 clear A100
 simp only [Option.some.injEq, Prod.mk.injEq] at H
 obtain ⟨rfl, rfl, rfl⟩ := H
 go_enter Try.func219, Try.ntmps219
 go_wp2_with (first | ((with_reducible refine gate_dst (N := 6) rfl ?_); refine box_event ?hg (N := 6) ?hd (cs := #[.int .i64 0, .int .i64 0, .int .i64 0]) (t := 58) ?hr ?_; (case hd => rfl); (case hg => rfl); (case hr => first | (go_simp; done) | (go_simp; rfl)); intro gb275 hg w11 hbox hb; have BK275 := jA (hbox); have GW275 := jA ((by rw [hg]; exact (jL Ub) : w.heap.size ≤ gb275)); have GE275 := jA ((by rw [hg]; exact (jL Ub) : w.heap.size ≤ gb275)); replace HB := jA (jB Ub hb); clear hb hbox hg) | (refine Gl 8 #[.int .i64 a0] Try.func285 ?_; (with_reducible refine (spec_pzAlone.calls a0 false _ A4.out).mono ?_); rintro e w' ⟨rfl, ⟨nd, rfl⟩⟩; refine ⟨_, rfl, ?_⟩; (try (rw [drewN_self w11]; generalize hq_ : World.drewN w11 _ = w11; have n0_ : Aside0 (w11.heap[gb275]? = some (.cells #[.int .i64 0, .int .i64 0, .int .i64 0] 58 (0, 0))) := ⟨by rw [← hq_]; exact (Bm BK275.out)⟩; have n1_ : Aside0 (Below w.heap.size w w11) := ⟨by rw [← hq_]; exact Ub⟩; clear BK275 HB hq_; have BK275 := n0_; have HB := n1_; clear n0_ n1_; (try have hcyBK275_0 : w11.cell? ⟨gb275, 0, none⟩ = some (.int .i64 0) := (jE BK275.out 0).trans rfl); (try have hcyBK275_1 : w11.cell? ⟨gb275, 1, none⟩ = some (.int .i64 0) := (jE BK275.out 1).trans rfl); (try have hcyBK275_2 : w11.cell? ⟨gb275, 2, none⟩ = some (.int .i64 0) := (jE BK275.out 2).trans rfl)))) | (refine Gl 19 #[.int .i64 a0, .int .i64 a1, .slice A2 l2.length c2] Try.func286 ?_; (with_reducible refine (spec_pzValue.calls k a0 a1 _ _ l2 t278 _ (Cm (jY HR2.out HB.out)) HC2.out A10.out).mono ?_); rintro e w12 ⟨rfl, hb⟩; refine ⟨_, rfl, ?_⟩; replace BK275 := jA (jN (g := gb275) (o := .cells #[.int .i64 0, .int .i64 0, .int .i64 0] 58 (0, 0)) (Bm BK275.out) hb); replace HB := jA (jB Ub hb); clear hb; have hcz13_0 : w12.cell? ⟨gb275, 0, none⟩ = some (.int .i64 0) := (jE BK275.out 0).trans rfl; have hcz13_1 : w12.cell? ⟨gb275, 1, none⟩ = some (.int .i64 0) := (jE BK275.out 1).trans rfl; have hcz13_2 : w12.cell? ⟨gb275, 2, none⟩ = some (.int .i64 0) := (jE BK275.out 2).trans rfl; have hfz13_0 := jF BK275.out 0; have hfz13_1 := jF BK275.out 1; have hfz13_2 := jF BK275.out 2))
 refine bodyPost_ret (results_cell_row rfl _ _ gb275 58 #[.int .i64 a0, .int .i64 a1, .int .i64 t278] (0, 0) _ rfl (by (with_reducible repeat refine Xg ?_); refine jp (cs := #[.int .i64 a0, .int .i64 a1, .int .i64 0]) ?_ 2 _ rfl; (with_reducible repeat refine Xg ?_); refine jp (cs := #[.int .i64 a0, .int .i64 0, .int .i64 0]) ?_ 1 _ rfl; (with_reducible repeat refine Xg ?_); refine jp (cs := #[.int .i64 0, .int .i64 0, .int .i64 0]) ?_ 0 _ rfl; (with_reducible repeat refine Xg ?_); exact BK275.out) Try.underlying58 rfl (by kernel_rfl)) rfl ?_
 exact ⟨Re, Ub⟩

end Go.Proofs.Ytgeoihhibglhgaa.PFnPiecesHidden
