-- printed by wip/xp
import Derived.Test.YtgeoihhibglhgaaPFnPiecesHiddenx0
import Derived.Test.YtgeoihhibglhgaaPFnPiecesHiddenx2
set_option maxHeartbeats 8000000
set_option maxRecDepth 100000
namespace Go.Proofs.Ytgeoihhibglhgaa.PFnPiecesHidden
open Go.RowKit Go.Proofs.YtgeoihhibglhgaaW.PrintWords Go.Proofs.YtgeoihhibglhgaaW.PrintLast Go.Proofs.YtgeoihhibglhgaaW.PrintMore Go.Proofs.Ytgeoihhibglhgaa.Xmv
attribute [local go_sem] max2_int min2_int max_two min_two max_three min_three max_four min_four
set_option linter.unusedVariables false
set_option linter.unusedSimpArgs false

/-! ### impl_ways: function 279 -/
mutual
def impl_ways.l0 : Nat → List Int → List Int → Int → Int → Option (List Int)
 | 0, _, _, _, _ => none
 | k + 1, x3, x13, x14, x15 => if x15 < x14 then (if 0 ≤ x15 then (if x15 < (x13.length : Int) then (impl_ways.l1 k x3 (rd x13 x15) (wrap64 ((x3.length : Int) - 1)) x13 x14 x15) else (none)) else (none)) else (some x3)
def impl_ways.l1 : Nat → List Int → Int → Int → List Int → Int → Int → Option (List Int)
 | 0, _, _, _, _, _, _ => none
 | k + 1, x3, x5, x6, x13, x14, x15 => if x6 ≥ x5 then (if 0 ≤ x6 then (if x6 < (x3.length : Int) then (if 0 ≤ (wrap64 (x6 - x5)) then (if (wrap64 (x6 - x5)) < (x3.length : Int) then (impl_ways.l1 k (x3.set (x6 : Int).toNat (wrap64 ((rd x3 x6) + (rd x3 (wrap64 (x6 - x5)))))) x5 (wrap64 (x6 - 1)) x13 x14 x15) else (none)) else (none)) else (none)) else (none)) else (impl_ways.l0 k x3 x13 x14 (wrap64 (x15 + 1)))
end
def impl_ways.f (k : Nat) (l0 : List Int) : Option (List Int) := (impl_total.f k l0).bind fun t116 => (if 0 ≤ (wrap64 (t116 + 1)) then (if (wrap64 (t116 + 1) : Int).toNat ≤ 35184372088832 then ((some (List.replicate (wrap64 (t116 + 1) : Int).toNat 0 : List Int)).bind fun y117 => (if 0 < (y117.length : Int) then (impl_ways.l0 k (y117.set (0 : Int).toNat 1) l0 (l0.length : Int) 0) else (none))) else (none)) else (none))
def impl_ways.T9 : Bool × List (List Nat × List Nat) := (true, [([], []), ([], []), ([0, 1], [0, 1]), ([2], [2]), ([], []), ([], []), ([], []), ([5, 6], [5, 6]), ([4, 7], [4, 7]), ([8], [8]), ([3, 9], [3, 9]), ([0, 1, 0, 1, 2, 3, 4, 5, 6, 7, 8, 9, 10], [0, 1]), ([11, 10, 0, 1, 2, 3, 4, 5, 6, 7, 8, 9, 10], [10, 11])])
def impl_ways.B9 : List Nat := [0, 0, 3, 7, 0, 0, 0, 96, 240, 496, 1023, 2047, 4095]
theorem impl_ways.tab9 : rtab .any (opsOf Try.f279 9) = impl_ways.T9 := by kernel_rfl
theorem impl_ways.bits9 : waitsOk impl_ways.T9.2 impl_ways.B9 = true := by kernel_rfl
theorem impl_ways.calls (k : Nat) (A0 : Option Addr) (c0 : Nat) (l0 : List Int) (r : List Int) (w : World) (hr0 : Kd.C (Kd.int .i64) w A0 l0.length l0) (hc0 : l0.length ≤ c0) (h : impl_ways.f k l0 = some r) :
 Calls Try.prog 279 #[.slice A0 l0.length c0] w fun e w' => ∃ v0_ : Value, e = .returned (v0_) ∧ Kd.R (Kd.int .i64) 3 w' w.heap.size (fun _ => True) v0_ r ∧ Below w.heap.size w w' := by
 have HR0 := jA hr0
 have HC0 := jA hc0
 clear hr0 hc0
 have HB := jA (jU w.heap.size w)
 have H := h; unfold impl_ways.f at H
 clear h
 replace H := jD H
 obtain ⟨t116, A20, H⟩ := H
 have A2 := jA A20
 clear A20
 obtain ⟨ji3, hji3⟩ : ∃ j_ : Int, (wrap64 (t116 + 1)) = j_ := ⟨_, rfl⟩
 replace H : (if 0 ≤ (ji3) then (if (ji3 : Int).toNat ≤ 35184372088832 then ((some (List.replicate (ji3 : Int).toNat 0 : List Int)).bind fun y117 => (if 0 < (y117.length : Int) then (impl_ways.l0 k (y117.set (0 : Int).toNat 1) l0 (l0.length : Int) 0) else (none))) else (none)) else (none)) = some r := by first | (rw [hji3] at H; exact H) | (simp only [hji3] at H ⊢; exact H)
 (try rw [hji3] at A2)
 have hji3w : (IntKind.i64.wrap (t116 + 1)) = ji3 := (i64_w _).trans hji3
 replace H := Ic H; rcases H with ⟨c4, H⟩ | ⟨c4, H⟩
 · have c4b0 := eq_true c4
   have c4b1 := jK c4
   clear c4
   replace H := Ip H; obtain ⟨c5, H⟩ := H
   have c5b0 := eq_true c5
   have c5b1 := jK c5
   clear c5
   obtain ⟨y117, hy117⟩ : ∃ y_ : List Int, y_ = (List.replicate (ji3 : Int).toNat 0) := ⟨_, rfl⟩
   replace H : (if 0 < (y117.length : Int) then (impl_ways.l0 k (y117.set (0 : Int).toNat 1) l0 (l0.length : Int) 0) else (none)) = some r := by first | (rw [hy117]; with_reducible exact H) | (have H2_ := (Option.bind_some _ _).symm.trans H; rw [hy117]; with_reducible exact H2_) | (have H2_ := (Option.bind_some _ _).symm.trans H; with_reducible exact H2_) | with_reducible exact H | (rw [hy117]; exact H) | exact H
   have Ny117 := jA hy117
   clear hy117
   replace H := Ip H; obtain ⟨c6, H⟩ := H
   have c6b0 := jK c6
   have c6b1 : decide (0 < y117.length) = true := jK (by omega)
   clear c6
   obtain ⟨y120, hy120⟩ : ∃ y_ : List Int, y_ = (y117.set (0 : Int).toNat 1) := ⟨_, rfl⟩
   replace H : (impl_ways.l0 k y120 l0 (l0.length : Int) 0) = some r := by first | (rw [hy120]; with_reducible exact H) | (have H2_ := (Option.bind_some _ _).symm.trans H; rw [hy120]; with_reducible exact H2_) | (have H2_ := (Option.bind_some _ _).symm.trans H; with_reducible exact H2_) | with_reducible exact H | (rw [hy120]; exact H) | exact H
   have Ny120 := jA hy120
   clear hy120
   have H' := jA H
   clear H
   go_enter Try.func279, Try.ntmps279
   go_wp2_with (first | (refine Gl 8 #[.slice A0 l0.length c0] Try.func185 ?_; (with_reducible refine (impl_total.calls k _ _ l0 t116 _ (Cm HR0.out) HC0.out A2.out).mono ?_); rintro e w' ⟨rfl, ⟨nd, rfl⟩⟩; refine ⟨_, rfl, ?_⟩) | ((with_reducible refine gate_dst (N := 10) rfl ?_); refine Kd.R_make (Kd.int .i64) _ 3 rfl (N := 10) rfl 24 _ _ rfl ji3 rfl rfl Try.underlying24 (.int .i64 0) 8 info3 rfl (by decide) (by omega) 0 (ok := fun _ => True) (okp := fun _ => True) rfl (fun _ hk => hk) trivial (Oa) (Nat.le_trans (Nat.mul_le_mul_right _ (Oa : ji3.toNat ≤ 35184372088832)) (by omega)) (jU _ _) (jX _) ?_; intro v118 w8 ho9 hb hg_ hnew_; clear hg_ hnew_; (first | rw [← Ny117.out] at ho9 | (simp only [Int.reduceToNat] at ho9; rw [← Ny117.out] at ho9)); have HO119 := jA (jf ho9 (jL Ub)); replace HB := jA (jB Ub hb); clear hb ho9; have p7 : 0 ≤ (0 : Int) := (by omega); have q7 : (0 : Int) < ((y117.length : Int) : Int) := Oa; have qi7 : (0 < y117.length) = True := eq_true (by omega); obtain ⟨go7, co7, eo7, gb7, gl7, cl7, HG7⟩ := Kd.R_form HO119.out (by omega); (first | cases eo7 | (injection eo7 with ea_ en_ ec_; (first | subst ea_ | (injection ea_ with ea_; subst ea_)); subst ec_; clear en_)); have GB7 := jA gb7; have GG7 := jA HG7; clear gb7 gl7 HG7; obtain ⟨hx7_0, hf7_0⟩ := Kd.R_celln 0 HO119.out (0 : Int) p7 q7; (try rw [show ((0 : Int)).toNat = 0 from rfl] at hx7_0); (try simp only [Nat.reduceMul, Nat.zero_mul, Nat.zero_add, Nat.reduceAdd] at hx7_0); (try rw [show ((0 : Int)).toNat = 0 from rfl] at hf7_0); (try simp only [Nat.reduceMul, Nat.zero_mul, Nat.zero_add, Nat.reduceAdd] at hf7_0); replace p7 := eq_true p7; replace q7 := eq_true q7; obtain ⟨hy10_, hz10_⟩ := Kd.R_celln 0 HO119.out (0 : Int) (by omega) (Oa); (try simp only [Int.reduceToNat, Int.toNat_zero, Int.toNat_ofNat, Nat.reduceMul, Nat.zero_mul, Nat.zero_add] at hy10_ hz10_); (try rw [show ((0 : Int)).toNat = 0 from rfl] at hy10_); (try rw [show ((0 : Int)).toNat = 0 from rfl] at hz10_); have HP10 := Kd.R_putg HO119.out (0 : Int) 1) | ((with_reducible refine gate_store (t := 3) (p := 12) rfl ?_); refine store_event (t := 3) (p := 12) (v := ?vo_w11) (w1 := (w8.setCell ⟨go7, (0 : Int).toNat, none⟩ (.int .i64 1))) ?hg ?ho ?hn ?hr ?_; (case ho => rfl); (case hg => rfl); (case hn => rfl); (case hr => first | (go_simp; done) | (go_simp; rfl)); intro w11 hw; have hg : w8.grownBy w11 (some go7) := (by rw [hw]; exact HP10.2); have hp_ : Kd.R (Kd.int .i64) 3 w11 w.heap.size (fun _ => True) (.slice (some ⟨go7, 0, none⟩) y117.length co7) y120 := (by rw [hw, Ny120.out]; exact HP10.1); clear HP10; replace HO119 := jA (hp_); replace HB := jA ((by rw [hw]; exact jH (HB.out) GB7.out : Below w.heap.size w w11)); clear hg hw hp_))
   go_loopg [15] k (fun kq v15 w' => ∃ (x3_1 : List Int) (x15_1 : Int), v15 = .int .i64 x15_1 ∧ Aside0 (impl_ways.l0 kq x3_1 l0 (l0.length : Int) x15_1 = some r) ∧ Aside0 (kq ≤ k) ∧ Aside0 (Kd.R (Kd.int .i64) 3 w' w.heap.size (fun _ => True) (.slice (some ⟨go7, 0, none⟩) y117.length co7) x3_1) ∧ Aside0 (Below w.heap.size w w'))
   case atStart => exact ⟨(y120), (0), Rs, H', ⟨jX _⟩, ⟨Rm HO119.out⟩, ⟨Ub⟩⟩
   case round =>
    clear H'
    try clear c4
    try clear c4b0
    try clear c4b1
    try clear c5
    try clear c5b0
    try clear c5b1
    try clear c6
    try clear c6b0
    try clear c6b1
    try clear p7
    try clear q7
    try clear qi7
    try clear hx7_0
    try clear p7
    try clear q7
    obtain ⟨x3_1, x15_1, rfl, HA, HK1, HO_3, HB⟩ := hrel
    have hl3_1 := (Kd.R_reads' HO_3.out).1
    rw [hl3_1] at HO_3
    (try simp only [hl3_1])
    cases gk with
    | zero => exact absurd HA.out (by simp [impl_ways.l0])
    | succ k1 =>
     have H := HA.out
     clear HA
     simp only [impl_ways.l0] at H
     replace H := Ic H; rcases H with ⟨c12, H⟩ | ⟨c12, H⟩
     · have c12b0 := jK c12
       clear c12
       replace H := Ip H; obtain ⟨c13, H⟩ := H
       have c13b0 := jK c13
       clear c13
       replace H := Ip H; obtain ⟨c14, H⟩ := H
       have c14b0 := jK c14
       clear c14
       have H' := jA H
       clear H
       obtain ⟨p121, q121, ad121, e121, hx121_0⟩ := Ai HR0.out x15_1
       cases e121
       replace hx121_0 := (HB.out.cell (World.block_lt_of_cell? w _ hx121_0)).trans hx121_0
       go_wp2
       go_loopg [6] k1 (fun kq v6 w' => ∃ (x3_2 : List Int) (x6_2 : Int), v6 = .int .i64 x6_2 ∧ Aside0 (impl_ways.l1 kq x3_2 (rd l0 x15_1) x6_2 l0 (l0.length : Int) x15_1 = some r) ∧ Aside0 (kq ≤ k1) ∧ Aside0 (Kd.R (Kd.int .i64) 3 w' w.heap.size (fun _ => True) (.slice (some ⟨go7, 0, none⟩) x3_1.length co7) x3_2) ∧ Aside0 (Below w.heap.size w w'))
       case atStart => exact ⟨(x3_1), (wrap64 ((x3_1.length : Int) - 1)), Rs, H', ⟨jX _⟩, ⟨by (try simp only [hl3_1]); (with_reducible repeat apply Xq); exact HO_3.out⟩, ⟨Ub⟩⟩
       case round =>
        clear H'
        try clear c4
        try clear c4b0
        try clear c4b1
        try clear c5
        try clear c5b0
        try clear c5b1
        try clear c6
        try clear c6b0
        try clear c6b1
        try clear p7
        try clear q7
        try clear qi7
        try clear c12
        try clear c12b0
        try clear c13
        try clear c13b0
        try clear c14
        try clear c14b0
        try clear hx121_0
        try clear hx7_0
        try clear p121
        try clear p7
        try clear q121
        try clear q7
        obtain ⟨x3_2, x6_2, rfl, HA, HK2, HO_3, HB⟩ := hrel
        have hl3_2 := (Kd.R_reads' HO_3.out).1
        rw [hl3_2] at HO_3
        (try simp only [hl3_2])
        cases gk with
        | zero => exact absurd HA.out (by simp [impl_ways.l1])
        | succ k2 =>
         have H := HA.out
         clear HA
         simp only [impl_ways.l1] at H
         replace H := Ic H; rcases H with ⟨c15, H⟩ | ⟨c15, H⟩
         · have c15b0 : decide ((rd l0 x15_1) ≤ x6_2) = true := jK c15
           clear c15
           replace H := Ip H; obtain ⟨c16, H⟩ := H
           have c16b0 := jK c16
           clear c16
           replace H := Ip H; obtain ⟨c17, H⟩ := H
           have c17b0 := jK c17
           clear c17
           obtain ⟨ji18, hji18⟩ : ∃ j_ : Int, (wrap64 (x6_2 - (rd l0 x15_1))) = j_ := ⟨_, rfl⟩
           replace H : (if 0 ≤ (ji18) then (if (ji18) < (x3_2.length : Int) then (impl_ways.l1 k2 (x3_2.set (x6_2 : Int).toNat (wrap64 ((rd x3_2 x6_2) + (rd x3_2 (ji18))))) (rd l0 x15_1) (wrap64 (x6_2 - 1)) l0 (l0.length : Int) x15_1) else (none)) else (none)) = some r := by first | (rw [hji18] at H; exact H) | (simp only [hji18] at H ⊢; exact H)
           have hji18w : (IntKind.i64.wrap (x6_2 - (rd l0 x15_1))) = ji18 := (i64_w _).trans hji18
           replace H := Ip H; obtain ⟨c19, H⟩ := H
           have c19b0 := jK c19
           clear c19
           replace H := Ip H; obtain ⟨c20, H⟩ := H
           have c20b0 := jK c20
           clear c20
           obtain ⟨y124, hy124⟩ : ∃ y_ : List Int, y_ = (x3_2.set (x6_2 : Int).toNat (wrap64 ((rd x3_2 x6_2) + (rd x3_2 (ji18))))) := ⟨_, rfl⟩
           replace H : (impl_ways.l1 k2 y124 (rd l0 x15_1) (wrap64 (x6_2 - 1)) l0 (l0.length : Int) x15_1) = some r := by first | (rw [hy124]; with_reducible exact H) | (have H2_ := (Option.bind_some _ _).symm.trans H; rw [hy124]; with_reducible exact H2_) | (have H2_ := (Option.bind_some _ _).symm.trans H; with_reducible exact H2_) | with_reducible exact H | (rw [hy124]; exact H) | exact H
           have Ny124 := jA hy124
           clear hy124
           have H' := jA H
           clear H
           try go_wp2
           replace HO_3 := jA (Kd.R_drew HO_3.out); replace HB := jA (jQ HB.out)
           have p122 : 0 ≤ (x6_2 : Int) := Oa
           have q122 : x6_2 < (x3_2.length : Int) := Oa
           obtain ⟨ad122, e122, hx122_0⟩ := Kd.at_int (Kd.R_reads' HO_3.out).2.2 x6_2 p122 q122
           obtain rfl : (⟨go7, 0, none⟩ : Addr) = ad122 := (by injection e122)
           (first | simp only [add_plain] at hx122_0 | simp only [add_at] at hx122_0 | simp only [Addr.add, Nat.zero_add] at hx122_0 | skip)
           replace p122 := eq_true p122
           replace q122 := eq_true q122
           have p123 : 0 ≤ ((ji18) : Int) := Oa
           have q123 : (ji18) < (x3_2.length : Int) := Oa
           obtain ⟨ad123, e123, hx123_0⟩ := Kd.at_int (Kd.R_reads' HO_3.out).2.2 (ji18) p123 q123
           obtain rfl : (⟨go7, 0, none⟩ : Addr) = ad123 := (by injection e123)
           (first | simp only [add_plain] at hx123_0 | simp only [add_at] at hx123_0 | simp only [Addr.add, Nat.zero_add] at hx123_0 | skip)
           replace p123 := eq_true p123
           replace q123 := eq_true q123
           have p21 : 0 ≤ (x6_2 : Int) := Oa
           have q21 : (x6_2 : Int) < ((x3_2.length : Int) : Int) := Oa
           obtain ⟨hx21_0, hf21_0⟩ := Kd.R_celln 0 HO_3.out (x6_2 : Int) p21 q21
           replace p21 := eq_true p21
           replace q21 := eq_true q21
           have HP23 := Kd.R_putn HO_3.out (x6_2 : Int) (wrap64 ((rd x3_2 x6_2) + (rd x3_2 (ji18))))
           rw [← Ny124.out] at HP23
           have HQ23 := jA HP23
           clear HP23
           refine start_ (n := 13) (S := fun w' => w'.cell? ⟨go7, (x6_2).toNat, none⟩ = some (.int .i64 (rd x3_2 x6_2)) ∧ w'.cell? ⟨go7, ((ji18)).toNat, none⟩ = some (.int .i64 (rd x3_2 (ji18)))) (ds := [12]) #[false, false, false, false, false, false, false, false, false, false, false, false, false] (by kernel_rfl) rfl rfl ⟨hx122_0, hx123_0⟩ (fun hHeld => ?_); refine with_tabW impl_ways.tab9 impl_ways.bits9 (fun HT_ HW_ => ?_)
           generalize wr.drew = w22 at HO_3 HB HQ23 hf21_0 hx122_0 hx123_0 hx21_0 hHeld ⊢
           refine Pu 0 27 #[true, false, false, false, false, false, false, false, false, false, false, false, false] HT_.out ?_
           refine Pu 1 28 #[true, true, false, false, false, false, false, false, false, false, false, false, false] HT_.out ?_
           refine Pu 2 29 #[true, true, true, false, false, false, false, false, false, false, false, false, false] HT_.out ?_
           refine Pu 4 31 #[true, true, true, false, true, false, false, false, false, false, false, false, false] HT_.out ?_
           refine Pu 5 32 #[true, true, true, false, true, true, false, false, false, false, false, false, false] HT_.out ?_
           refine Pu 6 33 #[true, true, true, false, true, true, true, false, false, false, false, false, false] HT_.out ?_
           refine Pu 7 34 #[true, true, true, false, true, true, true, true, false, false, false, false, false] HT_.out ?_
           refine Pu 8 35 #[true, true, true, false, true, true, true, true, true, false, false, false, false] HT_.out ?_
           refine take_ (i := 3) (N := some 30) (v := ?_) (a' := ?_) #[true, true, true, true, true, true, true, true, true, false, false, false, false] rfl rfl (take_ofW HT_.out HW_.out (by kernel_rfl)) (fun _ _ _ h => h) (Or.inl ⟨by rfl, ?_⟩) hHeld ?_ ?_
           rotate_left
           · rintro w' ⟨s0, s1⟩
             go_simp
             with_reducible rfl
           rotate_left
           · simp only [Act.put, List.setIfInBounds_toArray, List.set_cons_zero, List.set_cons_succ, i64_w, i32_w]
             rfl
           refine take_ (i := 9) (N := some 36) (v := ?_) (a' := ?_) #[true, true, true, true, true, true, true, true, true, true, false, false, false] rfl rfl (take_ofW HT_.out HW_.out (by kernel_rfl)) (fun _ _ _ h => h) (Or.inl ⟨by rfl, ?_⟩) hHeld ?_ ?_
           rotate_left
           · rintro w' ⟨s0, s1⟩
             go_simp
             with_reducible rfl
           rotate_left
           · simp only [Act.put, List.setIfInBounds_toArray, List.set_cons_zero, List.set_cons_succ, i64_w, i32_w]
             rfl
           refine Pu 10 37 #[true, true, true, true, true, true, true, true, true, true, true, false, false] HT_.out ?_
           refine Pu 11 38 #[true, true, true, true, true, true, true, true, true, true, true, true, false] HT_.out ?_
           refine last_ (i := 12) (N := none) #[true, true, true, true, true, true, true, true, true, true, true, true, true] rfl rfl (one_of HT_.out (by kernel_rfl)) (by decide) (fun K hK => ?_)
           refine skip_ (w1 := ?_) (by rfl) rfl ?_ ?_
           rotate_left
           · go_simp
             rfl
           refine hK.out _ _ ?_
           clear hK K
           refine done_ (done_of HT_.out (by kernel_rfl)) ?_
           try go_wp2
           (try simp only [← hl3_2])
           go_roundg k2
           case measure => have := HK1.out; have := HK2.out; omega
           case rel => exact ⟨(y124), (wrap64 (x6_2 - 1)), Rs, H', ⟨by have := HK1.out; have := HK2.out; omega⟩, ⟨by (try simp only [hl3_1]); (try simp only [hl3_2]); (with_reducible repeat apply Xq); exact HQ23.out⟩, ⟨by repeat (first | (with_reducible first | exact HB.out | apply Xa | refine jH ?_ GB7.out) | exact HB.out)⟩⟩
         have c15b0 : decide ((rd l0 x15_1) ≤ x6_2) = false := jV c15
         clear c15
         have H' := jA H
         clear H
         go_wp2
         (try simp only [← hl3_1, ← hl3_2])
         go_roundg k2
         case measure => have := HK1.out; have := HK2.out; omega
         case rel => exact ⟨(x3_2), (wrap64 (x15_1 + 1)), Rs, H', ⟨by have := HK1.out; have := HK2.out; omega⟩, ⟨by (try simp only [hl3_1]); (try simp only [hl3_2]); (with_reducible repeat apply Xq); exact HO_3.out⟩, ⟨Ub⟩⟩
     have c12b0 := jV c12
     clear c12
     obtain rfl := jM H
     go_wp2
     go_ret
     exact ⟨_, by first | rfl | (simp [errW_none, errW_some] <;> rfl) | (simp only [← hji3]; first | rfl | (simp [errW_none, errW_some] <;> rfl)) | (simp [*, errW_none, errW_some] <;> rfl), Rm HO_3.out, Ub⟩
 exact absurd H (by simp)

/-! ### impl_waysOf: function 210 -/
def impl_waysOf.f (k : Nat) (l0 : List Int) (a1 : Int) : Option (Int) := (impl_total.f k l0).bind fun t125 => (if a1 > t125 then (some 0) else ((impl_ways.f k l0).bind fun t126 => (if 0 ≤ a1 then (if a1 < (t126.length : Int) then (some (rd t126 a1)) else (none)) else (none))))
theorem impl_waysOf.calls (k : Nat) (A0 : Option Addr) (c0 : Nat) (l0 : List Int) (a1 : Int) (r : Int) (w : World) (hr0 : Kd.C (Kd.int .i64) w A0 l0.length l0) (hc0 : l0.length ≤ c0) (h : impl_waysOf.f k l0 a1 = some r) :
 Calls Try.prog 210 #[.slice A0 l0.length c0, .int .i64 a1] w fun e w' => e = .returned (.int .i64 r) ∧ Below w.heap.size w w' := by
 have HR0 := jA hr0
 have HC0 := jA hc0
 clear hr0 hc0
 have HB := jA (jU w.heap.size w)
 have H := h; unfold impl_waysOf.f at H
 clear h
 replace H := jD H
 obtain ⟨t125, A30, H⟩ := H
 have A3 := jA A30
 clear A30
 replace H := Ic H; rcases H with ⟨c4, H⟩ | ⟨c4, H⟩
 · have c4b0 : decide (t125 < a1) = true := jK c4
   clear c4
   obtain rfl := jM H
   go_enter Try.func210, Try.ntmps210
   go_wp2_with (first | (refine Gl 7 #[.slice A0 l0.length c0] Try.func185 ?_; (with_reducible refine (impl_total.calls k _ _ l0 t125 _ (Cm HR0.out) HC0.out A3.out).mono ?_); rintro e w' ⟨rfl, ⟨nd, rfl⟩⟩; refine ⟨_, rfl, ?_⟩))
   go_ret
   exact ⟨Re, Ub⟩
 have c4b0 : decide (t125 < a1) = false := jV c4
 clear c4
 replace H := jD H
 obtain ⟨t126, A50, H⟩ := H
 have A5 := jA A50
 clear A50
 replace H := Ic H; rcases H with ⟨c6, H⟩ | ⟨c6, H⟩
 · have c6b0 := jK c6
   clear c6
   replace H := Ip H; obtain ⟨c7, H⟩ := H
   have c7b0 := jK c7
   clear c7
   obtain rfl := jM H
   go_enter Try.func210, Try.ntmps210
   go_wp2_with (first | (refine Gl 7 #[.slice A0 l0.length c0] Try.func185 ?_; (with_reducible refine (impl_total.calls k _ _ l0 t125 _ (Cm HR0.out) HC0.out A3.out).mono ?_); rintro e w' ⟨rfl, ⟨nd, rfl⟩⟩; refine ⟨_, rfl, ?_⟩) | (refine Gl 10 #[.slice A0 l0.length c0] Try.func279 ?_; (with_reducible refine (impl_ways.calls k _ _ l0 t126 _ (Cm HR0.out) HC0.out A5.out).mono ?_); rintro e w8 ⟨v127, rfl, ho0, hb⟩; refine ⟨_, rfl, ?_⟩; have HO128 := jA (jf ho0 (jL Ub)); replace HB := jA (jB Ub hb); clear hb ho0; obtain ⟨Ao9, co9, eo9⟩ := jq HO128.out; subst eo9; have p129 : 0 ≤ (a1 : Int) := Oa; have q129 : a1 < (t126.length : Int) := Oa; obtain ⟨ad129, e129, hx129_0⟩ := Kd.at_int (Kd.R_reads' HO128.out).2.2 a1 p129 q129; cases e129; replace p129 := eq_true p129; replace q129 := eq_true q129))
   go_ret
   exact ⟨Re, Ub⟩
 exact absurd H (by simp)

/-! ### impl_WaysOf: function 71 -/
def impl_WaysOf.f (k : Nat) (l0 : List Int) (a1 : Int) : Option (Int × Bool) := (impl_isSum.f k l0 a1).bind fun t130 => (if t130 = true then ((impl_waysOf.f k l0 a1).bind fun t131 => (some (t131, true))) else (some (0, false)))
theorem impl_WaysOf.calls (k : Nat) (A0 : Option Addr) (c0 : Nat) (l0 : List Int) (a1 : Int) (r1 : Int) (r2 : Bool) (w : World) (hr0 : Kd.C (Kd.int .i64) w A0 l0.length l0) (hc0 : l0.length ≤ c0) (h : impl_WaysOf.f k l0 a1 = some (r1, r2)) :
 Calls Try.prog 71 #[.slice A0 l0.length c0, .int .i64 a1] w fun e w' => e = .returned (.tuple #[.int .i64 r1, .bool r2]) ∧ Below w.heap.size w w' := by
 have HR0 := jA hr0
 have HC0 := jA hc0
 clear hr0 hc0
 have HB := jA (jU w.heap.size w)
 have H := h; unfold impl_WaysOf.f at H
 clear h
 replace H := jD H
 obtain ⟨t130, A30, H⟩ := H
 have A3 := jA A30
 clear A30
 replace H := Iw H; rcases H with ⟨rfl, H⟩ | ⟨rfl, H⟩
 · replace H := jD H
   obtain ⟨t131, A50, H⟩ := H
   have A5 := jA A50
   clear A50
   simp only [Option.some.injEq, Prod.mk.injEq] at H
   obtain ⟨rfl, rfl⟩ := H
   go_enter Try.func71, Try.ntmps71
   go_wp2_with (first | (refine Gl 8 #[.slice A0 l0.length c0, .int .i64 a1] Try.func208 ?_; (with_reducible refine (impl_isSum.calls k _ _ l0 a1 true _ (Cm HR0.out) HC0.out A3.out).mono ?_); rintro e w6 ⟨rfl, hb⟩; refine ⟨_, rfl, ?_⟩; replace HB := jA (jB Ub hb); clear hb) | (refine Gl 12 #[.slice A0 l0.length c0, .int .i64 a1] Try.func210 ?_; (with_reducible refine (impl_waysOf.calls k _ _ l0 a1 t131 _ (Cm (jY HR0.out HB.out)) HC0.out A5.out).mono ?_); rintro e w7 ⟨rfl, hb⟩; refine ⟨_, rfl, ?_⟩; replace HB := jA (jB Ub hb); clear hb))
   go_ret2
   exact ⟨Re, Ub⟩
 simp only [Option.some.injEq, Prod.mk.injEq] at H
 obtain ⟨rfl, rfl⟩ := H
 go_enter Try.func71, Try.ntmps71
 go_wp2_with (first | (refine Gl 8 #[.slice A0 l0.length c0, .int .i64 a1] Try.func208 ?_; (with_reducible refine (impl_isSum.calls k _ _ l0 a1 false _ (Cm HR0.out) HC0.out A3.out).mono ?_); rintro e w8 ⟨rfl, hb⟩; refine ⟨_, rfl, ?_⟩; replace HB := jA (jB Ub hb); clear hb))
 go_ret2
 exact ⟨Re, Ub⟩

/-- A state of type 102 at block g of W; what its slices lead to came in by w0. -/
def IsS102 (w0 W : World) (g : Nat) (f0 : List Int) (f1 : Int) (f2 : Int) : Prop := ∃ A0 c0, W.heap[g]? = some (.cells #[.slice A0 f0.length c0, .int .i64 f1, .int .u64 f2] 102 (0, 0)) ∧ w0.heap.size ≤ g ∧ Kd.C (Kd.int .u8) w0 A0 f0.length f0
theorem IsS102.grown {w0 W : World} {g : Nat} {f0 : List Int} {f1 : Int} {f2 : Int} {W1 : World} {row : Option Nat} (h : IsS102 w0 W g f0 f1 f2) (hw : W.grownBy W1 row) (hne : some g ≠ row) : IsS102 w0 W1 g f0 f1 f2 := by
 obtain ⟨A0, c0, hb, hg, hr0⟩ := h
 exact ⟨A0, c0, js hb hw hne, hg, hr0⟩
theorem IsS102.kept {w0 W : World} {g : Nat} {f0 : List Int} {f1 : Int} {f2 : Int} {W1 : World} {S : Nat → Prop} (h : IsS102 w0 W g f0 f1 f2) (hk : Kept W W1 S) (hne : ¬ S g) : IsS102 w0 W1 g f0 f1 f2 := by
 obtain ⟨A0, c0, hb, hg, hr0⟩ := h
 exact ⟨A0, c0, blk_kept hb hk hne, hg, hr0⟩
theorem IsS102.below {w0 W : World} {g : Nat} {f0 : List Int} {f1 : Int} {f2 : Int} {W1 : World} (h : IsS102 w0 W g f0 f1 f2) (hw : Below W.heap.size W W1) : IsS102 w0 W1 g f0 f1 f2 := h.grown (grown_of_below hw none) (by simp)
theorem IsS102.alloc {w0 W : World} {g : Nat} {f0 : List Int} {f1 : Int} {f2 : Int} (h : IsS102 w0 W g f0 f1 f2) (o : Obj) : IsS102 w0 (W.alloc o) g f0 f1 f2 := h.below (jP (jU _ _) o)
theorem IsS102.drewN {w0 W : World} {g : Nat} {f0 : List Int} {f1 : Int} {f2 : Int} (h : IsS102 w0 W g f0 f1 f2) (m : Nat) : IsS102 w0 (W.drewN m) g f0 f1 f2 := h
theorem IsS102.drew {w0 W : World} {g : Nat} {f0 : List Int} {f1 : Int} {f2 : Int} (h : IsS102 w0 W g f0 f1 f2) : IsS102 w0 W.drew g f0 f1 f2 := h
theorem IsS102.apart {w0 W : World} {g : Nat} {f0 : List Int} {f1 : Int} {f2 : Int} {α : Type} {d : Kd α} {e : Nat} {base : Nat} {ok : Nat → Prop} {v : Value} {xs : List α} (h : IsS102 w0 W g f0 f1 f2) (ho : d.R e W base ok v xs) (ht : ∀ q, q ∈ e :: d.E → q ≠ 102) : d.R e W base (fun k => ok k ∧ k ≠ g) v xs := by
 obtain ⟨A0, c0, hb, hg, hr0⟩ := h
 exact jm ho hb ht
theorem IsS102.own_ne {w0 W : World} {g : Nat} {f0 : List Int} {f1 : Int} {f2 : Int} {α : Type} {d : Kd α} {e : Nat} {base : Nat} {ok : Nat → Prop} {v : Value} {xs : List α} (h : IsS102 w0 W g f0 f1 f2) (ho : d.R e W base ok v xs) (ht : e ≠ 102) : some g ≠ v.ownBlock := by
 obtain ⟨A0, c0, hb, hg, hr0⟩ := h
 exact Kd.R_ne ho hb ht
theorem IsS102.lt {w0 W : World} {g : Nat} {f0 : List Int} {f1 : Int} {f2 : Int} (h : IsS102 w0 W g f0 f1 f2) : g < W.heap.size := by
 obtain ⟨A0, c0, hb, hg, hr0⟩ := h
 exact blk_lt hb
theorem IsS102.ge {w0 W : World} {g : Nat} {f0 : List Int} {f1 : Int} {f2 : Int} (h : IsS102 w0 W g f0 f1 f2) : w0.heap.size ≤ g := by
 obtain ⟨A0, c0, hb, hg, hr0⟩ := h
 exact hg
theorem IsS102.far {w0 W : World} {g : Nat} {f0 : List Int} {f1 : Int} {f2 : Int} {p : Addr} (h : IsS102 w0 W g f0 f1 f2) (hne : g ≠ p.block) (u : Value) : IsS102 w0 (W.setCell p u) g f0 f1 f2 := by
 obtain ⟨A0, c0, hb, hg, hr0⟩ := h
 exact ⟨A0, c0, jk hb hne u, hg, hr0⟩
theorem cellS102_0 {W : World} {g : Nat} {A0 : Option Addr} {c0 : Nat} {f0 : List Int} {f1 : Int} {f2 : Int} (h : W.heap[g]? = some (.cells #[.slice A0 f0.length c0, .int .i64 f1, .int .u64 f2] 102 (0, 0))) : W.cell? ⟨g, 0, none⟩ = some (.slice A0 f0.length c0) := (jE h 0).trans rfl
theorem cellS102_1 {W : World} {g : Nat} {A0 : Option Addr} {c0 : Nat} {f0 : List Int} {f1 : Int} {f2 : Int} (h : W.heap[g]? = some (.cells #[.slice A0 f0.length c0, .int .i64 f1, .int .u64 f2] 102 (0, 0))) : W.cell? ⟨g, 1, none⟩ = some (.int .i64 f1) := (jE h 1).trans rfl
theorem IsS102.set_1 {w0 W : World} {g : Nat} {f0 : List Int} {f1 : Int} {f2 : Int} (h : IsS102 w0 W g f0 f1 f2) (x : Int) : IsS102 w0 (W.setCell ⟨g, 1, none⟩ (.int .i64 x)) g f0 x f2 := by
 obtain ⟨A0, c0, hb, hg, hr0⟩ := h
 exact ⟨A0, c0, by simpa using blk_set hb 1 (.int .i64 x), hg, hr0⟩
theorem cellS102_2 {W : World} {g : Nat} {A0 : Option Addr} {c0 : Nat} {f0 : List Int} {f1 : Int} {f2 : Int} (h : W.heap[g]? = some (.cells #[.slice A0 f0.length c0, .int .i64 f1, .int .u64 f2] 102 (0, 0))) : W.cell? ⟨g, 2, none⟩ = some (.int .u64 f2) := (jE h 2).trans rfl
theorem IsS102.set_2 {w0 W : World} {g : Nat} {f0 : List Int} {f1 : Int} {f2 : Int} (h : IsS102 w0 W g f0 f1 f2) (x : Int) : IsS102 w0 (W.setCell ⟨g, 2, none⟩ (.int .u64 x)) g f0 f1 x := by
 obtain ⟨A0, c0, hb, hg, hr0⟩ := h
 exact ⟨A0, c0, by simpa using blk_set hb 2 (.int .u64 x), hg, hr0⟩
theorem Xs {w0 W : World} {g : Nat} {f0 : List Int} {f1 : Int} {f2 : Int} {W1 : World} [k : Gr W W1] (h : IsS102 w0 W g f0 f1 f2) : IsS102 w0 W1 g f0 f1 f2 := h.below k.out
theorem qA : type_of% @IsS102.below := @IsS102.below
theorem qB : type_of% @IsS102.apart := @IsS102.apart
theorem qD : type_of% @IsS102.lt := @IsS102.lt
theorem qE : type_of% @IsS102.ge := @IsS102.ge
theorem qF : type_of% @IsS102.far := @IsS102.far
theorem qG : type_of% @IsS102.set_1 := @IsS102.set_1
theorem qH : type_of% @IsS102.set_2 := @IsS102.set_2
/-! ### spec_l1Cur_next: function 284 -/
def spec_l1Cur_next.f (s0_0 : List Int) (s0_1 : Int) (s0_2 : Int) : Option (Int × Int × Int) := if s0_1 < (s0_0.length : Int) then (if 0 ≤ s0_1 then (if (wrap64 (s0_1 + 1)) ≤ (s0_0.length : Int) then (some (wrap64 (rd s0_0 s0_1), wrap64 (s0_1 + 1), IntKind.u64.wrap ((IntKind.u64.wrap ((IntKind.u64.wrap (s0_2 * 6364136223846793005)) + (IntKind.u64.wrap (wrap64 (rd s0_0 s0_1))))) + 1442695040888963407))) else (some (wrap64 (Go.bits .and .u64 ((IntKind.u64.wrap ((IntKind.u64.wrap ((IntKind.u64.wrap (s0_2 * 6364136223846793005)) + (IntKind.u64.wrap (wrap64 (rd s0_0 s0_1))))) + 1442695040888963407)) / 1099511627776) 255), wrap64 (s0_1 + 1), IntKind.u64.wrap ((IntKind.u64.wrap ((IntKind.u64.wrap (s0_2 * 6364136223846793005)) + (IntKind.u64.wrap (wrap64 (rd s0_0 s0_1))))) + 1442695040888963407)))) else (none)) else (if (wrap64 (s0_1 + 1)) ≤ (s0_0.length : Int) then (some (0, wrap64 (s0_1 + 1), IntKind.u64.wrap ((IntKind.u64.wrap (IntKind.u64.wrap (s0_2 * 6364136223846793005))) + 1442695040888963407))) else (some (wrap64 (Go.bits .and .u64 ((IntKind.u64.wrap ((IntKind.u64.wrap (IntKind.u64.wrap (s0_2 * 6364136223846793005))) + 1442695040888963407)) / 1099511627776) 255), wrap64 (s0_1 + 1), IntKind.u64.wrap ((IntKind.u64.wrap (IntKind.u64.wrap (s0_2 * 6364136223846793005))) + 1442695040888963407))))
theorem spec_l1Cur_next.calls (g : Nat) (s0_0 : List Int) (s0_1 : Int) (s0_2 : Int) (r1 : Int) (r2 : Int) (r3 : Int) (w0 w : World) (hI : IsS102 w0 w g s0_0 s0_1 s0_2) (hB : Below w0.heap.size w0 w) (h : spec_l1Cur_next.f s0_0 s0_1 s0_2 = some (r1, r2, r3)) :
 Calls Try.prog 284 #[.pointer (some ⟨g, 0, none⟩)] w fun e w' => e = .returned (.int .i64 r1) ∧ IsS102 w0 w' g s0_0 r2 r3 ∧ Below w0.heap.size w0 w' ∧ KeepBut w w' g none := by
 have HI0 := jA hI
 have HK := jA (KeepBut.refl w g none)
 have HL := jA hB.size
 clear hI
 have HW0 := jA hB.size
 have HB := jA hB
 clear hB
 have H := h; unfold spec_l1Cur_next.f at H
 clear h
 replace H := Ic H; rcases H with ⟨c2, H⟩ | ⟨c2, H⟩
 · have c2b0 := jK c2
   clear c2
   replace H := Ip H; obtain ⟨c3, H⟩ := H
   have c3b0 := jK c3
   clear c3
   replace H := Ic H; rcases H with ⟨c4, H⟩ | ⟨c4, H⟩
   · have c4b0 := jK c4
     clear c4
     simp only [Option.some.injEq, Prod.mk.injEq] at H
     obtain ⟨rfl, rfl, rfl⟩ := H
     obtain ⟨ASz5_0, cSz5_0, HGz5, hgz5, HSz5_0⟩ := HI0.out
     have hcz5_0 := cellS102_0 HGz5
     have hcz5_1 := cellS102_1 HGz5
     have hcz5_2 := cellS102_2 HGz5
     have hfz5_1 := jF HGz5 1
     have hfz5_2 := jF HGz5 2
     clear HGz5 hgz5
     obtain ⟨p132, q132, ad132, e132, hx132_0⟩ := Ai HSz5_0 s0_1
     cases e132
     replace hx132_0 := pw_cell_below HB.out hx132_0
     go_enter Try.func284, Try.ntmps284
     go_wp2
     repeat (go_quiet (fail); try go_wp2)
     go_ret
     exact ⟨Re, by repeat (first | (with_reducible first | exact HI0.out | apply Xs | apply qG | apply qH) | exact HI0.out), by repeat (first | (with_reducible first | exact HB.out | apply Xa | refine jH ?_ (qE HI0.out)) | exact HB.out), by repeat (first | (with_reducible first | exact HK.out | apply jG | apply Xk) | exact HK.out)⟩
   have c4b0 := jV c4
   clear c4
   simp only [Option.some.injEq, Prod.mk.injEq] at H
   obtain ⟨rfl, rfl, rfl⟩ := H
   obtain ⟨ASz6_0, cSz6_0, HGz6, hgz6, HSz6_0⟩ := HI0.out
   have hcz6_0 := cellS102_0 HGz6
   have hcz6_1 := cellS102_1 HGz6
   have hcz6_2 := cellS102_2 HGz6
   have hfz6_1 := jF HGz6 1
   have hfz6_2 := jF HGz6 2
   clear HGz6 hgz6
   obtain ⟨p132, q132, ad132, e132, hx132_0⟩ := Ai HSz6_0 s0_1
   cases e132
   replace hx132_0 := pw_cell_below HB.out hx132_0
   go_enter Try.func284, Try.ntmps284
   go_wp2
   repeat (go_quiet (fail); try go_wp2)
   go_ret
   exact ⟨Re, by repeat (first | (with_reducible first | exact HI0.out | apply Xs | apply qG | apply qH) | exact HI0.out), by repeat (first | (with_reducible first | exact HB.out | apply Xa | refine jH ?_ (qE HI0.out)) | exact HB.out), by repeat (first | (with_reducible first | exact HK.out | apply jG | apply Xk) | exact HK.out)⟩
 have c2b0 := jV c2
 clear c2
 replace H := Ic H; rcases H with ⟨c7, H⟩ | ⟨c7, H⟩
 · have c7b0 := jK c7
   clear c7
   simp only [Option.some.injEq, Prod.mk.injEq] at H
   obtain ⟨rfl, rfl, rfl⟩ := H
   obtain ⟨ASz8_0, cSz8_0, HGz8, hgz8, HSz8_0⟩ := HI0.out
   have hcz8_0 := cellS102_0 HGz8
   have hcz8_1 := cellS102_1 HGz8
   have hcz8_2 := cellS102_2 HGz8
   have hfz8_1 := jF HGz8 1
   have hfz8_2 := jF HGz8 2
   clear HGz8 hgz8
   go_enter Try.func284, Try.ntmps284
   go_wp2
   repeat (go_quiet (fail); try go_wp2)
   go_ret
   exact ⟨Re, by repeat (first | (with_reducible first | exact HI0.out | apply Xs | apply qG | apply qH) | exact HI0.out), by repeat (first | (with_reducible first | exact HB.out | apply Xa | refine jH ?_ (qE HI0.out)) | exact HB.out), by repeat (first | (with_reducible first | exact HK.out | apply jG | apply Xk) | exact HK.out)⟩
 have c7b0 := jV c7
 clear c7
 simp only [Option.some.injEq, Prod.mk.injEq] at H
 obtain ⟨rfl, rfl, rfl⟩ := H
 obtain ⟨ASz9_0, cSz9_0, HGz9, hgz9, HSz9_0⟩ := HI0.out
 have hcz9_0 := cellS102_0 HGz9
 have hcz9_1 := cellS102_1 HGz9
 have hcz9_2 := cellS102_2 HGz9
 have hfz9_1 := jF HGz9 1
 have hfz9_2 := jF HGz9 2
 clear HGz9 hgz9
 go_enter Try.func284, Try.ntmps284
 go_wp2
 repeat (go_quiet (fail); try go_wp2)
 go_ret
 exact ⟨Re, by repeat (first | (with_reducible first | exact HI0.out | apply Xs | apply qG | apply qH) | exact HI0.out), by repeat (first | (with_reducible first | exact HB.out | apply Xa | refine jH ?_ (qE HI0.out)) | exact HB.out), by repeat (first | (with_reducible first | exact HK.out | apply jG | apply Xk) | exact HK.out)⟩

/-! ### spec_l1Cur_pick: function 214 -/
def spec_l1Cur_pick.f (s0_0 : List Int) (s0_1 : Int) (s0_2 : Int) (a1 : Int) : Option (Int × Int × Int) := if a1 ≤ 1 then (some (0, s0_1, s0_2)) else ((spec_l1Cur_next.f s0_0 s0_1 s0_2).bind fun bt133 => (if a1 > 200 then ((spec_l1Cur_next.f s0_0 bt133.2.1 bt133.2.2).bind fun bt136 => (if a1 = 0 then (none) else (some (Int.tmod (wrap64 ((wrap64 (bt133.1 * 256)) + bt136.1)) a1, bt136.2.1, bt136.2.2)))) else (if a1 = 0 then (none) else (some (Int.tmod bt133.1 a1, bt133.2.1, bt133.2.2)))))
theorem spec_l1Cur_pick.calls (g : Nat) (s0_0 : List Int) (s0_1 : Int) (s0_2 : Int) (a1 : Int) (r1 : Int) (r2 : Int) (r3 : Int) (w0 w : World) (hI : IsS102 w0 w g s0_0 s0_1 s0_2) (hB : Below w0.heap.size w0 w) (h : spec_l1Cur_pick.f s0_0 s0_1 s0_2 a1 = some (r1, r2, r3)) :
 Calls Try.prog 214 #[.pointer (some ⟨g, 0, none⟩), .int .i64 a1] w fun e w' => e = .returned (.int .i64 r1) ∧ IsS102 w0 w' g s0_0 r2 r3 ∧ Below w0.heap.size w0 w' ∧ KeepBut w w' g none := by
 have HI0 := jA hI
 have HK := jA (KeepBut.refl w g none)
 have HL := jA hB.size
 clear hI
 have HW0 := jA hB.size
 have HB := jA hB
 clear hB
 have H := h; unfold spec_l1Cur_pick.f at H
 clear h
 replace H := Ic H; rcases H with ⟨c3, H⟩ | ⟨c3, H⟩
 · have c3b0 := jK c3
   clear c3
   simp only [Option.some.injEq, Prod.mk.injEq] at H
   obtain ⟨rfl, rfl, rfl⟩ := H
   go_enter Try.func214, Try.ntmps214
   go_wp2
   go_ret
   exact ⟨Re, by repeat (first | (with_reducible first | exact HI0.out | apply Xs | apply qG | apply qH) | exact HI0.out), by repeat (first | (with_reducible first | exact HB.out | apply Xa | refine jH ?_ (qE HI0.out)) | exact HB.out), by repeat (first | (with_reducible first | exact HK.out | apply jG | apply Xk) | exact HK.out)⟩
 have c3b0 := jV c3
 clear c3
 replace H := jD H
 obtain ⟨⟨t133, t134, t135⟩, A40, H⟩ := H
 have A4 := jA A40
 clear A40
 replace H := Ic H; rcases H with ⟨c5, H⟩ | ⟨c5, H⟩
 · have c5b0 : decide (200 < a1) = true := jK c5
   clear c5
   replace H := jD H
   obtain ⟨⟨t136, t137, t138⟩, A60, H⟩ := H
   have A6 := jA A60
   clear A60
   replace H := Ic H; rcases H with ⟨c7, H⟩ | ⟨c7, H⟩
   · exact absurd H (by simp)
   have c7b0 : (a1 == 0) = false := beq_eq_false_iff_ne.mpr c7
   have c7b1 := bne_iff_ne.mpr c7
   simp only [Option.some.injEq, Prod.mk.injEq] at H
   obtain ⟨rfl, rfl, rfl⟩ := H
   go_enter Try.func214, Try.ntmps214
   go_wp2_with (first | (refine Gl 9 #[.pointer (some ⟨g, 0, none⟩)] Try.func284 ?_; (with_reducible refine (spec_l1Cur_next.calls g s0_0 s0_1 s0_2 t133 t134 t135 w0 _ ?side1 ?side2 A4.out).mono ?_); (case side1 => repeat (first | (with_reducible first | exact HI0.out | apply Xs | apply qG | apply qH) | exact HI0.out)); (case side2 => repeat (first | (with_reducible first | exact HB.out | apply Xa | refine jH ?_ (qE HI0.out)) | exact HB.out)); rintro e w8 ⟨rfl, hi, hb, hk⟩; refine ⟨_, rfl, ?_⟩; replace HK := jA (jS (by repeat (first | (with_reducible first | exact HK.out | apply jG | apply Xk) | exact HK.out)) hk (.inl rfl)); replace HB := jA (hb); replace HI0 := jA (hi); clear hb hk hi) | (refine Gl 15 #[.pointer (some ⟨g, 0, none⟩)] Try.func284 ?_; (with_reducible refine (spec_l1Cur_next.calls g s0_0 t134 t135 t136 t137 t138 w0 _ ?side1 ?side2 A6.out).mono ?_); (case side1 => repeat (first | (with_reducible first | exact HI0.out | apply Xs | apply qG | apply qH) | exact HI0.out)); (case side2 => repeat (first | (with_reducible first | exact HB.out | apply Xa | refine jH ?_ (qE HI0.out)) | exact HB.out)); rintro e w9 ⟨rfl, hi, hb, hk⟩; refine ⟨_, rfl, ?_⟩; replace HK := jA (jS (by repeat (first | (with_reducible first | exact HK.out | apply jG | apply Xk) | exact HK.out)) hk (.inl rfl)); replace HB := jA (hb); replace HI0 := jA (hi); clear hb hk hi))
   go_ret
   exact ⟨Re, by repeat (first | (with_reducible first | exact HI0.out | apply Xs | apply qG | apply qH) | exact HI0.out), by repeat (first | (with_reducible first | exact HB.out | apply Xa | refine jH ?_ (qE HI0.out)) | exact HB.out), by repeat (first | (with_reducible first | exact HK.out | apply jG | apply Xk) | exact HK.out)⟩
 have c5b0 : decide (200 < a1) = false := jV c5
 clear c5
 replace H := Ic H; rcases H with ⟨c10, H⟩ | ⟨c10, H⟩
 · exact absurd H (by simp)
 have c10b0 : (a1 == 0) = false := beq_eq_false_iff_ne.mpr c10
 have c10b1 := bne_iff_ne.mpr c10
 simp only [Option.some.injEq, Prod.mk.injEq] at H
 obtain ⟨rfl, rfl, rfl⟩ := H
 go_enter Try.func214, Try.ntmps214
 go_wp2_with (first | (refine Gl 9 #[.pointer (some ⟨g, 0, none⟩)] Try.func284 ?_; (with_reducible refine (spec_l1Cur_next.calls g s0_0 s0_1 s0_2 t133 t134 t135 w0 _ ?side1 ?side2 A4.out).mono ?_); (case side1 => repeat (first | (with_reducible first | exact HI0.out | apply Xs | apply qG | apply qH) | exact HI0.out)); (case side2 => repeat (first | (with_reducible first | exact HB.out | apply Xa | refine jH ?_ (qE HI0.out)) | exact HB.out)); rintro e w11 ⟨rfl, hi, hb, hk⟩; refine ⟨_, rfl, ?_⟩; replace HK := jA (jS (by repeat (first | (with_reducible first | exact HK.out | apply jG | apply Xk) | exact HK.out)) hk (.inl rfl)); replace HB := jA (hb); replace HI0 := jA (hi); clear hb hk hi))
 go_ret
 exact ⟨Re, by repeat (first | (with_reducible first | exact HI0.out | apply Xs | apply qG | apply qH) | exact HI0.out), by repeat (first | (with_reducible first | exact HB.out | apply Xa | refine jH ?_ (qE HI0.out)) | exact HB.out), by repeat (first | (with_reducible first | exact HK.out | apply jG | apply Xk) | exact HK.out)⟩

/-! ### spec_l1Cur_among: function 192 -/
def spec_l1Cur_among.f (s0_0 : List Int) (s0_1 : Int) (s0_2 : Int) (l1 : List Int) : Option (Int × Int × Int) := (spec_l1Cur_pick.f s0_0 s0_1 s0_2 (l1.length : Int)).bind fun bt139 => (if 0 ≤ bt139.1 then (if bt139.1 < (l1.length : Int) then (some (rd l1 bt139.1, bt139.2.1, bt139.2.2)) else (none)) else (none))
theorem spec_l1Cur_among.calls (g : Nat) (s0_0 : List Int) (s0_1 : Int) (s0_2 : Int) (A1 : Option Addr) (c1 : Nat) (l1 : List Int) (r1 : Int) (r2 : Int) (r3 : Int) (w0 w : World) (hI : IsS102 w0 w g s0_0 s0_1 s0_2) (hB : Below w0.heap.size w0 w) (hr1 : Kd.C (Kd.int .i64) w A1 l1.length l1) (hc1 : l1.length ≤ c1) (hf1 : ∀ ad, A1 = some ad → 0 < l1.length → ad.block ≠ g) (h : spec_l1Cur_among.f s0_0 s0_1 s0_2 l1 = some (r1, r2, r3)) :
 Calls Try.prog 192 #[.pointer (some ⟨g, 0, none⟩), .slice A1 l1.length c1] w fun e w' => e = .returned (.int .i64 r1) ∧ IsS102 w0 w' g s0_0 r2 r3 ∧ Below w0.heap.size w0 w' ∧ KeepBut w w' g none := by
 have HR1 := jA hr1
 have HC1 := jA hc1
 clear hr1 hc1
 have HI0 := jA hI
 have HK := jA (KeepBut.refl w g none)
 have HL := jA hB.size
 clear hI
 have HW0 := jA hB.size
 have HB := jA hB
 clear hB
 have H := h; unfold spec_l1Cur_among.f at H
 clear h
 replace H := jD H
 obtain ⟨⟨t139, t140, t141⟩, A30, H⟩ := H
 have A3 := jA A30
 clear A30
 replace H := Ic H; rcases H with ⟨c4, H⟩ | ⟨c4, H⟩
 · have c4b0 := jK c4
   clear c4
   replace H := Ip H; obtain ⟨c5, H⟩ := H
   have c5b0 := jK c5
   clear c5
   simp only [Option.some.injEq, Prod.mk.injEq] at H
   obtain ⟨rfl, rfl, rfl⟩ := H
   go_enter Try.func192, Try.ntmps192
   go_wp2_with (first | (refine Gl 9 #[.pointer (some ⟨g, 0, none⟩), .int .i64 (l1.length : Int)] Try.func214 ?_; (with_reducible refine (spec_l1Cur_pick.calls g s0_0 s0_1 s0_2 (l1.length : Int) t139 t140 t141 w0 _ ?side1 ?side2 A3.out).mono ?_); (case side1 => repeat (first | (with_reducible first | exact HI0.out | apply Xs | apply qG | apply qH) | exact HI0.out)); (case side2 => repeat (first | (with_reducible first | exact HB.out | apply Xa | refine jH ?_ (qE HI0.out)) | exact HB.out)); rintro e w6 ⟨rfl, hi, hb, hk⟩; refine ⟨_, rfl, ?_⟩; replace HK := jA (jS (by repeat (first | (with_reducible first | exact HK.out | apply jG | apply Xk) | exact HK.out)) hk (.inl rfl)); replace HB := jA (hb); replace HI0 := jA (hi); clear hb hk hi; have p142 : 0 ≤ (t139 : Int) := Oa; have q142 : t139 < (l1.length : Int) := Oa; obtain ⟨ad142, e142, hx142_0⟩ := Kd.at_int HR1.out t139 p142 q142; cases e142; replace hx142_0 := keep_cell HK.out hx142_0 (by first | (rw [add_block]; exact hf1 _ rfl (by omega)) | exact hf1 _ rfl (by omega) | exact hf1 ad142 rfl (by omega)); replace p142 := eq_true p142; replace q142 := eq_true q142))
   go_ret
   exact ⟨Re, by repeat (first | (with_reducible first | exact HI0.out | apply Xs | apply qG | apply qH) | exact HI0.out), by repeat (first | (with_reducible first | exact HB.out | apply Xa | refine jH ?_ (qE HI0.out)) | exact HB.out), by repeat (first | (with_reducible first | exact HK.out | apply jG | apply Xk) | exact HK.out)⟩
 exact absurd H (by simp)

/-! ### spec_l1Cur_one: function 212 -/
def spec_l1Cur_one.f (s0_0 : List Int) (s0_1 : Int) (s0_2 : Int) (a1 : Int) : Option (Bool × Int × Int) := (spec_l1Cur_pick.f s0_0 s0_1 s0_2 a1).bind fun bt143 => (some ((bt143.1 == 0), bt143.2.1, bt143.2.2))
theorem spec_l1Cur_one.calls (g : Nat) (s0_0 : List Int) (s0_1 : Int) (s0_2 : Int) (a1 : Int) (r1 : Bool) (r2 : Int) (r3 : Int) (w0 w : World) (hI : IsS102 w0 w g s0_0 s0_1 s0_2) (hB : Below w0.heap.size w0 w) (h : spec_l1Cur_one.f s0_0 s0_1 s0_2 a1 = some (r1, r2, r3)) :
 Calls Try.prog 212 #[.pointer (some ⟨g, 0, none⟩), .int .i64 a1] w fun e w' => e = .returned (.bool r1) ∧ IsS102 w0 w' g s0_0 r2 r3 ∧ Below w0.heap.size w0 w' ∧ KeepBut w w' g none := by
 have HI0 := jA hI
 have HK := jA (KeepBut.refl w g none)
 have HL := jA hB.size
 clear hI
 have HW0 := jA hB.size
 have HB := jA hB
 clear hB
 have H := h; unfold spec_l1Cur_one.f at H
 clear h
 replace H := jD H
 obtain ⟨⟨t143, t144, t145⟩, A30, H⟩ := H
 have A3 := jA A30
 clear A30
 simp only [Option.some.injEq, Prod.mk.injEq] at H
 obtain ⟨rfl, rfl, rfl⟩ := H
 go_enter Try.func212, Try.ntmps212
 go_wp2_with (first | (refine Gl 7 #[.pointer (some ⟨g, 0, none⟩), .int .i64 a1] Try.func214 ?_; (with_reducible refine (spec_l1Cur_pick.calls g s0_0 s0_1 s0_2 a1 t143 t144 t145 w0 _ ?side1 ?side2 A3.out).mono ?_); (case side1 => repeat (first | (with_reducible first | exact HI0.out | apply Xs | apply qG | apply qH) | exact HI0.out)); (case side2 => repeat (first | (with_reducible first | exact HB.out | apply Xa | refine jH ?_ (qE HI0.out)) | exact HB.out)); rintro e w4 ⟨rfl, hi, hb, hk⟩; refine ⟨_, rfl, ?_⟩; replace HK := jA (jS (by repeat (first | (with_reducible first | exact HK.out | apply jG | apply Xk) | exact HK.out)) hk (.inl rfl)); replace HB := jA (hb); replace HI0 := jA (hi); clear hb hk hi))
 go_ret
 exact ⟨Re, by repeat (first | (with_reducible first | exact HI0.out | apply Xs | apply qG | apply qH) | exact HI0.out), by repeat (first | (with_reducible first | exact HB.out | apply Xa | refine jH ?_ (qE HI0.out)) | exact HB.out), by repeat (first | (with_reducible first | exact HK.out | apply jG | apply Xk) | exact HK.out)⟩

/-! ### spec_l1Own: function 175 -/
def spec_l1Own.f (l0 : List Int) : Option (List Int) := (some (([] : List Int) : List Int)).bind fun y146 => (if y146.length + l0.length < 17592186044416 then (some (y146 ++ l0)) else (none))
theorem spec_l1Own.calls (A0 : Option Addr) (c0 : Nat) (l0 : List Int) (r : List Int) (w : World) (hr0 : Kd.C (Kd.int .i64) w A0 l0.length l0) (hc0 : l0.length ≤ c0) (h : spec_l1Own.f l0 = some r) :
 Calls Try.prog 175 #[.slice A0 l0.length c0] w fun e w' => ∃ v0_ : Value, e = .returned (v0_) ∧ Kd.R (Kd.int .i64) 3 w' w.heap.size (fun _ => True) v0_ r ∧ Below w.heap.size w w' := by
 have HR0 := jA hr0
 have HC0 := jA hc0
 clear hr0 hc0
 have HB := jA (jU w.heap.size w)
 have H := h; unfold spec_l1Own.f at H
 clear h
 obtain ⟨y146, hy146⟩ : ∃ y_ : List Int, y_ = (([] : List Int)) := ⟨_, rfl⟩
 replace H : (if y146.length + l0.length < 17592186044416 then (some (y146 ++ l0)) else (none)) = some r := by first | (rw [hy146]; with_reducible exact H) | (have H2_ := (Option.bind_some _ _).symm.trans H; rw [hy146]; with_reducible exact H2_) | (have H2_ := (Option.bind_some _ _).symm.trans H; with_reducible exact H2_) | with_reducible exact H | (rw [hy146]; exact H) | exact H
 have Ny146 := jA hy146
 clear hy146
 replace H := Ic H; rcases H with ⟨c2, H⟩ | ⟨c2, H⟩
 · have LMc2 := jA c2
   clear c2
   obtain ⟨y149, hy149⟩ : ∃ y_ : List Int, y_ = (y146 ++ l0) := ⟨_, rfl⟩
   replace H : (some y149) = some r := by first | (rw [hy149]; with_reducible exact H) | (have H2_ := (Option.bind_some _ _).symm.trans H; rw [hy149]; with_reducible exact H2_) | (have H2_ := (Option.bind_some _ _).symm.trans H; with_reducible exact H2_) | with_reducible exact H | (rw [hy149]; exact H) | exact H
   have Ny149 := jA hy149
   clear hy149
   obtain rfl := jM H
   go_enter Try.func175, Try.ntmps175
   go_wp2_with (first | ((with_reducible refine gate_dst (N := 3) rfl ?_); refine Kd.R_lit (Kd.int .i64) _ 3 ?hg (N := 3) ?hd (xs := ([] : List Int)) (inner := []) (ok := fun _ => True) (okp := fun _ => True) ?hr ?hp (fun _ hk => hk) trivial (jU _ _) (jX _) (by simp) ?_; (case hd => rfl); (case hg => rfl); (case hr => first | (go_simp; done) | (go_simp; rfl)); (case hp => exact (Reps.none _ _)); intro v147 w3 ho4 hb hg_ hnew_; clear hg_ hnew_; (first | rw [← Ny146.out] at ho4 | (simp only [Int.reduceToNat] at ho4; rw [← Ny146.out] at ho4)); have HO148 := jA (jf ho4 (jL Ub)); replace HB := jA (jB Ub hb); clear hb ho4) | ((with_reducible refine gate_builtin (b := .append) (xs := #[.tmp 3, .tmp 4]) rfl ?_); at_builtin; refine Kd.R_append_rows (Kd.int .i64) (w0 := w) w.heap.size rfl (.tmp 3) (.tmp 4) 24 3 (.int .i64 0) 8 rfl Try.underlying24 info3 rfl (by decide) (by omega) v147 y146 l0 _ _ _ (fun _ => True) (fun _ => False) rfl rfl ?aO ?aR (fun _ _ h => h) (fun _ h => h.elim) ?aF ?aB ?aS ?aL ?_; (case aR => repeat (first | exact (jY HR0.out HB.out) | (with_reducible refine Xc ?_))); (case aB => exact Ub); (case aF => exact (fun _ _ => trivial)); (case aO => exact (Rm HO148.out)); (case aS => exact (jL Ub)); (case aL => have := LMc2.out; omega); intro v150 w5 ho hb hg hat; rw [← Ny149.out] at ho; replace HB := jA (hb); have HO151 := jA (ho); clear HO148; clear ho hb hg hat))
   go_ret
   exact ⟨_, Re, Rm HO151.out, Ub⟩
 exact absurd H (by simp)

end Go.Proofs.Ytgeoihhibglhgaa.PFnPiecesHidden
