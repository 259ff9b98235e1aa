-- MADE FOR THIS CLAIM by wip/xp/xprint.py (with the kit's print; some functions' contracts proved by hand)
import Derived.Test.YtjjajbgijncfoaaPFnChangeGivenx0
import Derived.Test.YtjjajbgijncfoaaPFnChangeGivenx5
import Derived.Test.YtjjajbgijncfoaaPFnChangeGivenx8
set_option maxHeartbeats 8000000
set_option maxRecDepth 100000
namespace Go.Proofs.Ytjjajbgijncfoaa.PFnChangeGiven
open Go.RowKit Go.Proofs.YtjjajbgijncfoaaW.PrintWords Go.Proofs.YtjjajbgijncfoaaW.PrintLast Go.Proofs.YtjjajbgijncfoaaW.PrintMore Go.Proofs.Ytjjajbgijncfoaa.Xmv
attribute [local go_sem] max2_int min2_int max_two min_two max_three min_three max_four min_four   -- for this text's walks alone
set_option linter.unusedVariables false
set_option linter.unusedSimpArgs false

/-! ### spec_CountChange: function 18 -/
mutual
def spec_CountChange.l0 : Nat → Int → List Int → List Int → Int → Int → Option (Int × Bool)
 | 0, _, _, _, _, _ => none
 | k + 1, x1, x6, x19, x20, x21 => if x21 < x20 then (if 0 ≤ x21 then (if x21 < (x19.length : Int) then (spec_CountChange.l1 k x1 x6 (rd x19 x21) (rd x19 x21) x19 x20 x21) else (none)) else (none)) else (if 0 ≤ x1 then (if x1 < (x6.length : Int) then (if (rd x6 x1) > 1000000000000000 then (some (0, false)) else (some (rd x6 x1, true))) else (none)) else (none))
def spec_CountChange.l1 : Nat → Int → List Int → Int → Int → List Int → Int → Int → Option (Int × Bool)
 | 0, _, _, _, _, _, _, _ => none
 | k + 1, x1, x6, x8, x9, x19, x20, x21 => if x9 ≤ x1 then (if 0 ≤ x9 then (if x9 < (x6.length : Int) then (if 0 ≤ (wrap64 (x9 - x8)) then (if (wrap64 (x9 - x8)) < (x6.length : Int) then ((spec_l1Least.f (wrap64 ((rd x6 x9) + (rd x6 (wrap64 (x9 - x8))))) 1000000000000001).bind fun t379 => (spec_CountChange.l1 k x1 (x6.set (x9 : Int).toNat t379) x8 (wrap64 (x9 + 1)) x19 x20 x21)) else (none)) else (none)) else (none)) else (none)) else (spec_CountChange.l0 k x1 x6 x19 x20 (wrap64 (x21 + 1)))
end
def spec_CountChange.f (k : Nat) (l0 : List Int) (a1 : Int) : Option (Int × Bool) := (spec_cnAsked.f k l0 a1).bind fun t369 => (if t369 = true then (if 0 ≤ (wrap64 (a1 + 1)) then (if (wrap64 (a1 + 1) : Int).toNat ≤ 35184372088832 then ((some (List.replicate (wrap64 (a1 + 1) : Int).toNat 0 : List Int)).bind fun y370 => (if 0 < (y370.length : Int) then (spec_CountChange.l0 k a1 (y370.set (0 : Int).toNat 1) l0 (l0.length : Int) 0) else (none))) else (none)) else (none)) else (some (0, false)))
def spec_CountChange.T11 : Bool × List (List Nat × List Nat) := (true, [([], []), ([], []), ([], []), ([], []), ([2, 3], [2, 3]), ([4], [4]), ([], []), ([], []), ([], []), ([7, 8], [7, 8]), ([6, 9], [6, 9]), ([10], [10]), ([5, 11], [5, 11]), ([12], [12]), ([0, 1, 0, 1, 2, 3, 4, 5, 6, 7, 8, 9, 10, 11, 12, 13], [0, 1]), ([14, 13, 13, 0, 1, 2, 3, 4, 5, 6, 7, 8, 9, 10, 11, 12, 13], [13, 14])])
def spec_CountChange.B11 : List Nat := [0, 0, 0, 0, 12, 28, 0, 0, 0, 384, 960, 1984, 4092, 8188, 16383, 32767]
theorem spec_CountChange.tab11 : rtab .any (opsOf Try.f18 11) = spec_CountChange.T11 := by kernel_rfl
theorem spec_CountChange.bits11 : waitsOk spec_CountChange.T11.2 spec_CountChange.B11 = true := by kernel_rfl
theorem spec_CountChange.calls (k : Nat) (A0 : Option Addr) (c0 : Nat) (l0 : List Int) (a1 : Int) (r1 : Int) (r2 : Bool) (w : World) (hr0 : Kd.C (Kd.int .i64) w A0 l0.length l0) (hc0 : l0.length ≤ c0) (h : spec_CountChange.f k l0 a1 = some (r1, r2)) :
 Calls Try.prog 18 #[.slice A0 l0.length c0, .int .i64 a1] w fun e w' => e = .returned (.tuple #[.int .i64 r1, .bool r2]) ∧ Below w.heap.size w w' := by
 have HR0 := Aside0.mk hr0
 have HC0 := Aside0.mk hc0
 clear hr0 hc0
 have HB := Aside0.mk (Below.refl w.heap.size w)
 have H := h; unfold spec_CountChange.f at H
 clear h
 replace H := Option.bind_eq_some_iff.mp H
 obtain ⟨t369, A30, H⟩ := H
 have A3 := Aside0.mk A30
 clear A30
 replace H := Iw H; rcases H with ⟨rfl, H⟩ | ⟨rfl, H⟩
 · obtain ⟨ji5, hji5⟩ : ∃ j_ : Int, (wrap64 (a1 + 1)) = j_ := ⟨_, rfl⟩
   replace H : (if 0 ≤ (ji5) then (if (ji5 : Int).toNat ≤ 35184372088832 then ((some (List.replicate (ji5 : Int).toNat 0 : List Int)).bind fun y370 => (if 0 < (y370.length : Int) then (spec_CountChange.l0 k a1 (y370.set (0 : Int).toNat 1) l0 (l0.length : Int) 0) else (none))) else (none)) else (none)) = some (r1, r2) := by first | (rw [hji5] at H; exact H) | (simp only [hji5] at H ⊢; exact H)
   (try rw [hji5] at A3)
   have hji5w : (IntKind.i64.wrap (a1 + 1)) = ji5 := (i64_w _).trans hji5
   replace H := Ip H; obtain ⟨c6, H⟩ := H
   have c6b0 := eq_true c6
   have c6b1 := decide_eq_true c6
   clear c6
   replace H := Ip H; obtain ⟨c7, H⟩ := H
   have c7b0 := eq_true c7
   have c7b1 := decide_eq_true c7
   clear c7
   obtain ⟨y370, hy370⟩ : ∃ y_ : List Int, y_ = (List.replicate (ji5 : Int).toNat 0) := ⟨_, rfl⟩
   replace H : (if 0 < (y370.length : Int) then (spec_CountChange.l0 k a1 (y370.set (0 : Int).toNat 1) l0 (l0.length : Int) 0) else (none)) = some (r1, r2) := by first | (rw [hy370]; with_reducible exact H) | (have H2_ := (Option.bind_some _ _).symm.trans H; rw [hy370]; with_reducible exact H2_) | (have H2_ := (Option.bind_some _ _).symm.trans H; with_reducible exact H2_) | with_reducible exact H | (rw [hy370]; exact H) | exact H
   have Ny370 := Aside0.mk hy370
   clear hy370
   replace H := Ip H; obtain ⟨c8, H⟩ := H
   have c8b0 := decide_eq_true c8
   have c8b1 : decide (0 < y370.length) = true := decide_eq_true (by omega)
   clear c8
   obtain ⟨y373, hy373⟩ : ∃ y_ : List Int, y_ = (y370.set (0 : Int).toNat 1) := ⟨_, rfl⟩
   replace H : (spec_CountChange.l0 k a1 y373 l0 (l0.length : Int) 0) = some (r1, r2) := by first | (rw [hy373]; with_reducible exact H) | (have H2_ := (Option.bind_some _ _).symm.trans H; rw [hy373]; with_reducible exact H2_) | (have H2_ := (Option.bind_some _ _).symm.trans H; with_reducible exact H2_) | with_reducible exact H | (rw [hy373]; exact H) | exact H
   have Ny373 := Aside0.mk hy373
   clear hy373
   have H' := Aside0.mk H
   clear H
   go_enter Try.func18, Try.ntmps18
   go_wp2_with (first | (refine Gl 12 #[.slice A0 l0.length c0, .int .i64 a1] Try.func96 ?_; (with_reducible refine (spec_cnAsked.calls k _ _ l0 a1 true _ (Cm HR0.out) HC0.out A3.out).mono ?_); rintro e w' ⟨rfl, ⟨nd, rfl⟩⟩; refine ⟨_, rfl, ?_⟩) | ((with_reducible refine gate_dst (N := 16) rfl ?_); refine Kd.R_make (Kd.int .i64) _ 3 rfl (N := 16) rfl 24 _ _ rfl ji5 rfl rfl Try.underlying24 (.int .i64 0) 8 info3 rfl (by decide) (by omega) 0 (ok := fun _ => True) (okp := fun _ => True) rfl (fun _ hk => hk) trivial (Oa) (Nat.le_trans (Nat.mul_le_mul_right _ (Oa : ji5.toNat ≤ 35184372088832)) (by omega)) (Below.refl _ _) (Nat.le_refl _) ?_; intro v371 w10 ho11 hb hg_ hnew_; clear hg_ hnew_; (first | rw [← Ny370.out] at ho11 | (simp only [Int.reduceToNat] at ho11; rw [← Ny370.out] at ho11)); have HO372 := Aside0.mk (Kd.R_lower ho11 (below_size Ub)); replace HB := Aside0.mk (below_step Ub hb); clear hb ho11; have p9 : 0 ≤ (0 : Int) := (by omega); have q9 : (0 : Int) < ((y370.length : Int) : Int) := Oa; have qi9 : (0 < y370.length) = True := eq_true (by omega); obtain ⟨go9, co9, eo9, gb9, gl9, cl9, HG9⟩ := Kd.R_form HO372.out (by omega); (first | cases eo9 | (injection eo9 with ea_ en_ ec_; (first | subst ea_ | (injection ea_ with ea_; subst ea_)); subst ec_; clear en_)); have GB9 := Aside0.mk gb9; have GG9 := Aside0.mk HG9; clear gb9 gl9 HG9; obtain ⟨hx9_0, hf9_0⟩ := Kd.R_celln 0 HO372.out (0 : Int) p9 q9; (try rw [show ((0 : Int)).toNat = 0 from rfl] at hx9_0); (try simp only [Nat.reduceMul, Nat.zero_mul, Nat.zero_add, Nat.reduceAdd] at hx9_0); (try rw [show ((0 : Int)).toNat = 0 from rfl] at hf9_0); (try simp only [Nat.reduceMul, Nat.zero_mul, Nat.zero_add, Nat.reduceAdd] at hf9_0); replace p9 := eq_true p9; replace q9 := eq_true q9; obtain ⟨hy12_, hz12_⟩ := Kd.R_celln 0 HO372.out (0 : Int) (by omega) (Oa); (try simp only [Int.reduceToNat, Int.toNat_zero, Int.toNat_ofNat, Nat.reduceMul, Nat.zero_mul, Nat.zero_add] at hy12_ hz12_); (try rw [show ((0 : Int)).toNat = 0 from rfl] at hy12_); (try rw [show ((0 : Int)).toNat = 0 from rfl] at hz12_); have HP12 := Kd.R_putg HO372.out (0 : Int) 1) | ((with_reducible refine gate_store (t := 3) (p := 18) rfl ?_); refine store_event (t := 3) (p := 18) (v := ?vo_w13) (w1 := (w10.setCell ⟨go9, (0 : Int).toNat, none⟩ (.int .i64 1))) ?hg ?ho ?hn ?hr ?_; (case ho => rfl); (case hg => rfl); (case hn => rfl); (case hr => first | (go_simp; done) | (go_simp; rfl)); intro w13 hw; have hg : w10.grownBy w13 (some go9) := (by rw [hw]; exact HP12.2); have hp_ : Kd.R (Kd.int .i64) 3 w13 w.heap.size (fun _ => True) (.slice (some ⟨go9, 0, none⟩) y370.length co9) y373 := (by rw [hw, Ny373.out]; exact HP12.1); clear HP12; replace HO372 := Aside0.mk (hp_); replace HB := Aside0.mk ((by rw [hw]; exact below_set (HB.out) GB9.out : Below w.heap.size w w13)); clear hg hw hp_))
   go_loopg [21] k (fun kq v21 w' => ∃ (x6_1 : List Int) (x21_1 : Int), v21 = .int .i64 x21_1 ∧ Aside0 (spec_CountChange.l0 kq a1 x6_1 l0 (l0.length : Int) x21_1 = some (r1, r2)) ∧ Aside0 (kq ≤ k) ∧ Aside0 (Kd.R (Kd.int .i64) 3 w' w.heap.size (fun _ => True) (.slice (some ⟨go9, 0, none⟩) y370.length co9) x6_1) ∧ Aside0 (Below w.heap.size w w'))
   case atStart => exact ⟨(y373), (0), Rs, H', ⟨Nat.le_refl _⟩, ⟨Rm HO372.out⟩, ⟨Ub⟩⟩
   case round =>
    clear H'
    try clear c6
    try clear c6b0
    try clear c6b1
    try clear c7
    try clear c7b0
    try clear c7b1
    try clear c8
    try clear c8b0
    try clear c8b1
    try clear p9
    try clear q9
    try clear qi9
    try clear hx9_0
    try clear p9
    try clear q9
    obtain ⟨x6_1, x21_1, rfl, HA, HK1, HO_6, HB⟩ := hrel
    have hl6_1 := (Kd.R_reads' HO_6.out).1
    rw [hl6_1] at HO_6
    (try simp only [hl6_1])
    cases gk with
    | zero => exact absurd HA.out (by simp [spec_CountChange.l0])
    | succ k1 =>
     have H := HA.out
     clear HA
     simp only [spec_CountChange.l0] at H
     replace H := Ic H; rcases H with ⟨c14, H⟩ | ⟨c14, H⟩
     · have c14b0 := decide_eq_true c14
       clear c14
       replace H := Ip H; obtain ⟨c15, H⟩ := H
       have c15b0 := decide_eq_true c15
       clear c15
       replace H := Ip H; obtain ⟨c16, H⟩ := H
       have c16b0 := decide_eq_true c16
       clear c16
       have H' := Aside0.mk H
       clear H
       obtain ⟨p376, q376, ad376, e376, hx376_0⟩ := Ai HR0.out x21_1
       cases e376
       replace hx376_0 := (HB.out.cell (World.block_lt_of_cell? w _ hx376_0)).trans hx376_0
       go_wp2
       go_loopg [9] k1 (fun kq v9 w' => ∃ (x6_2 : List Int) (x9_2 : Int), v9 = .int .i64 x9_2 ∧ Aside0 (spec_CountChange.l1 kq a1 x6_2 (rd l0 x21_1) x9_2 l0 (l0.length : Int) x21_1 = some (r1, r2)) ∧ Aside0 (kq ≤ k1) ∧ Aside0 (Kd.R (Kd.int .i64) 3 w' w.heap.size (fun _ => True) (.slice (some ⟨go9, 0, none⟩) x6_1.length co9) x6_2) ∧ Aside0 (Below w.heap.size w w'))
       case atStart => exact ⟨(x6_1), (rd l0 x21_1), Rs, H', ⟨Nat.le_refl _⟩, ⟨by (try simp only [hl6_1]); (with_reducible repeat (first | apply Kd.R_alloc | apply Kd.R_drewN | apply Kd.R_drew)); exact HO_6.out⟩, ⟨Ub⟩⟩
       case round =>
        clear H'
        try clear c6
        try clear c6b0
        try clear c6b1
        try clear c7
        try clear c7b0
        try clear c7b1
        try clear c8
        try clear c8b0
        try clear c8b1
        try clear p9
        try clear q9
        try clear qi9
        try clear c14
        try clear c14b0
        try clear c15
        try clear c15b0
        try clear c16
        try clear c16b0
        try clear hx376_0
        try clear hx9_0
        try clear p376
        try clear p9
        try clear q376
        try clear q9
        obtain ⟨x6_2, x9_2, rfl, HA, HK2, HO_6, HB⟩ := hrel
        have hl6_2 := (Kd.R_reads' HO_6.out).1
        rw [hl6_2] at HO_6
        (try simp only [hl6_2])
        cases gk with
        | zero => exact absurd HA.out (by simp [spec_CountChange.l1])
        | succ k2 =>
         have H := HA.out
         clear HA
         simp only [spec_CountChange.l1] at H
         replace H := Ic H; rcases H with ⟨c17, H⟩ | ⟨c17, H⟩
         · have c17b0 := decide_eq_true c17
           clear c17
           replace H := Ip H; obtain ⟨c18, H⟩ := H
           have c18b0 := decide_eq_true c18
           clear c18
           replace H := Ip H; obtain ⟨c19, H⟩ := H
           have c19b0 := decide_eq_true c19
           clear c19
           obtain ⟨ji20, hji20⟩ : ∃ j_ : Int, (wrap64 (x9_2 - (rd l0 x21_1))) = j_ := ⟨_, rfl⟩
           replace H : (if 0 ≤ (ji20) then (if (ji20) < (x6_2.length : Int) then ((spec_l1Least.f (wrap64 ((rd x6_2 x9_2) + (rd x6_2 (ji20)))) 1000000000000001).bind fun t379 => (spec_CountChange.l1 k2 a1 (x6_2.set (x9_2 : Int).toNat t379) (rd l0 x21_1) (wrap64 (x9_2 + 1)) l0 (l0.length : Int) x21_1)) else (none)) else (none)) = some (r1, r2) := by first | (rw [hji20] at H; exact H) | (simp only [hji20] at H ⊢; exact H)
           have hji20w : (IntKind.i64.wrap (x9_2 - (rd l0 x21_1))) = ji20 := (i64_w _).trans hji20
           replace H := Ip H; obtain ⟨c21, H⟩ := H
           have c21b0 := decide_eq_true c21
           clear c21
           replace H := Ip H; obtain ⟨c22, H⟩ := H
           have c22b0 := decide_eq_true c22
           clear c22
           replace H := Option.bind_eq_some_iff.mp H
           obtain ⟨t379, A230, H⟩ := H
           have A23 := Aside0.mk A230
           clear A230
           obtain ⟨y380, hy380⟩ : ∃ y_ : List Int, y_ = (x6_2.set (x9_2 : Int).toNat t379) := ⟨_, rfl⟩
           replace H : (spec_CountChange.l1 k2 a1 y380 (rd l0 x21_1) (wrap64 (x9_2 + 1)) l0 (l0.length : Int) x21_1) = some (r1, r2) := by first | (rw [hy380]; with_reducible exact H) | (have H2_ := (Option.bind_some _ _).symm.trans H; rw [hy380]; with_reducible exact H2_) | (have H2_ := (Option.bind_some _ _).symm.trans H; with_reducible exact H2_) | with_reducible exact H | (rw [hy380]; exact H) | exact H
           have Ny380 := Aside0.mk hy380
           clear hy380
           have H' := Aside0.mk H
           clear H
           try go_wp2
           replace HO_6 := Aside0.mk (Kd.R_drew HO_6.out); replace HB := Aside0.mk (below_drew1 HB.out)
           have p377 : 0 ≤ (x9_2 : Int) := Oa
           have q377 : x9_2 < (x6_2.length : Int) := Oa
           obtain ⟨ad377, e377, hx377_0⟩ := Kd.at_int (Kd.R_reads' HO_6.out).2.2 x9_2 p377 q377
           obtain rfl : (⟨go9, 0, none⟩ : Addr) = ad377 := (by injection e377)
           (first | simp only [add_plain] at hx377_0 | simp only [add_at] at hx377_0 | simp only [Addr.add, Nat.zero_add] at hx377_0 | skip)
           replace p377 := eq_true p377
           replace q377 := eq_true q377
           have p378 : 0 ≤ ((ji20) : Int) := Oa
           have q378 : (ji20) < (x6_2.length : Int) := Oa
           obtain ⟨ad378, e378, hx378_0⟩ := Kd.at_int (Kd.R_reads' HO_6.out).2.2 (ji20) p378 q378
           obtain rfl : (⟨go9, 0, none⟩ : Addr) = ad378 := (by injection e378)
           (first | simp only [add_plain] at hx378_0 | simp only [add_at] at hx378_0 | simp only [Addr.add, Nat.zero_add] at hx378_0 | skip)
           replace p378 := eq_true p378
           replace q378 := eq_true q378
           refine start_ (n := 16) (S := fun w' => w'.cell? ⟨go9, (x9_2).toNat, none⟩ = some (.int .i64 (rd x6_2 x9_2)) ∧ w'.cell? ⟨go9, ((ji20)).toNat, none⟩ = some (.int .i64 (rd x6_2 (ji20)))) (ds := [15]) #[false, false, false, false, false, false, false, false, false, false, false, false, false, false, false, false] (by kernel_rfl) rfl rfl ⟨hx377_0, hx378_0⟩ (fun hHeld => ?_); refine with_tabW spec_CountChange.tab11 spec_CountChange.bits11 (fun HT_ HW_ => ?_)
           generalize wr.drew = w25 at HO_6 HB hx377_0 hx378_0 hHeld ⊢
           refine Pu 0 31 #[true, false, false, false, false, false, false, false, false, false, false, false, false, false, false, false] HT_.out ?_
           refine Pu 1 32 #[true, true, false, false, false, false, false, false, false, false, false, false, false, false, false, false] HT_.out ?_
           refine Pu 2 33 #[true, true, true, false, false, false, false, false, false, false, false, false, false, false, false, false] HT_.out ?_
           refine Pu 3 34 #[true, true, true, true, false, false, false, false, false, false, false, false, false, false, false, false] HT_.out ?_
           refine Pu 4 35 #[true, true, true, true, true, false, false, false, false, false, false, false, false, false, false, false] HT_.out ?_
           refine Pu 6 37 #[true, true, true, true, true, false, true, false, false, false, false, false, false, false, false, false] HT_.out ?_
           refine Pu 7 38 #[true, true, true, true, true, false, true, true, false, false, false, false, false, false, false, false] HT_.out ?_
           refine Pu 8 39 #[true, true, true, true, true, false, true, true, true, false, false, false, false, false, false, false] HT_.out ?_
           refine Pu 9 40 #[true, true, true, true, true, false, true, true, true, true, false, false, false, false, false, false] HT_.out ?_
           refine Pu 10 41 #[true, true, true, true, true, false, true, true, true, true, true, false, false, false, false, false] HT_.out ?_
           refine take_ (i := 5) (N := some 36) (v := ?_) (a' := ?_) #[true, true, true, true, true, true, true, true, true, true, true, false, false, false, false, false] rfl rfl (take_ofW HT_.out HW_.out (by kernel_rfl)) (fun _ _ _ h => h) (Or.inl ⟨by rfl, ?_⟩) hHeld ?_ ?_
           rotate_left
           · rintro w' ⟨s0, s1⟩
             go_simp
             with_reducible rfl
           rotate_left
           · simp only [Act.put, List.setIfInBounds_toArray, List.set_cons_zero, List.set_cons_succ, i64_w, i32_w]
             rfl
           refine take_ (i := 11) (N := some 42) (v := ?_) (a' := ?_) #[true, true, true, true, true, true, true, true, true, true, true, true, false, false, false, false] rfl rfl (take_ofW HT_.out HW_.out (by kernel_rfl)) (fun _ _ _ h => h) (Or.inl ⟨by rfl, ?_⟩) hHeld ?_ ?_
           rotate_left
           · rintro w' ⟨s0, s1⟩
             go_simp
             with_reducible rfl
           rotate_left
           · simp only [Act.put, List.setIfInBounds_toArray, List.set_cons_zero, List.set_cons_succ, i64_w, i32_w]
             rfl
           refine Pu 12 43 #[true, true, true, true, true, true, true, true, true, true, true, true, true, false, false, false] HT_.out ?_
           refine one_ (i := 13) (N := some 44) #[true, true, true, true, true, true, true, true, true, true, true, true, true, true, false, false] rfl rfl (one_of HT_.out (by kernel_rfl)) (by decide) (fun K hK => ?_)
           refine goes_ Try.func104 (by kernel_rfl) rfl #[.int .i64 (wrap64 ((rd x6_2 x9_2) + (rd x6_2 (ji20)))), .int .i64 1000000000000001] (by rfl) rfl rfl (by (try simp only [List.map_toArray, List.map_cons, List.map_nil]); first | done | (simp only [hji20]; rfl) | rfl | (simp only [List.length_drop, List.length_take]; rfl)) ?_
           with_reducible refine (spec_l1Least.calls (wrap64 ((rd x6_2 x9_2) + (rd x6_2 (ji20)))) 1000000000000001 t379 _ A23.out).mono ?_
           rintro e w' ⟨rfl, ⟨nd, rfl⟩⟩
           refine ⟨_, rfl, ?_⟩
           have p24 : 0 ≤ (x9_2 : Int) := Oa
           have q24 : (x9_2 : Int) < ((x6_2.length : Int) : Int) := Oa
           obtain ⟨hx24_0, hf24_0⟩ := Kd.R_celln 0 HO_6.out (x9_2 : Int) p24 q24
           replace p24 := eq_true p24
           replace q24 := eq_true q24
           have HP26 := Kd.R_putn HO_6.out (x9_2 : Int) t379
           rw [← Ny380.out] at HP26
           have HQ26 := Aside0.mk HP26
           clear HP26
           refine hK.out _ _ ⟨hHeld.1, hHeld.2⟩ (fun hHeld => ?_)
           clear hK K
           refine norm_ (a' := ?_) ?_ ?_
           rotate_left
           · show Act.put _ (some 44) _ = _
             simp only [Act.put, List.setIfInBounds_toArray, List.set_cons_zero, List.set_cons_succ, i64_w, i32_w]
             rfl
           refine Pu 14 45 #[true, true, true, true, true, true, true, true, true, true, true, true, true, true, true, false] HT_.out ?_
           refine last_ (i := 15) (N := none) #[true, true, true, true, true, true, true, true, true, true, true, true, true, true, true, true] rfl rfl (one_of HT_.out (by kernel_rfl)) (by decide) (fun K hK => ?_)
           refine skip_ (w1 := ?_) (by rfl) rfl ?_ ?_
           rotate_left
           · go_simp
             rfl
           refine hK.out _ _ ?_
           clear hK K
           refine done_ (done_of HT_.out (by kernel_rfl)) ?_
           try go_wp2
           (try simp only [← hl6_2])
           go_roundg k2
           case measure => have := HK1.out; have := HK2.out; omega
           case rel => exact ⟨(y380), (wrap64 (x9_2 + 1)), Rs, H', ⟨by have := HK1.out; have := HK2.out; omega⟩, ⟨by (try simp only [hl6_1]); (try simp only [hl6_2]); (with_reducible repeat (first | apply Kd.R_alloc | apply Kd.R_drewN | apply Kd.R_drew)); exact HQ26.out⟩, ⟨by repeat (first | (with_reducible first | exact HB.out | apply below_alloc | apply pw_below_drewN | apply below_drew1 | refine below_set ?_ GB9.out) | exact HB.out)⟩⟩
         have c17b0 := decide_eq_false c17
         clear c17
         have H' := Aside0.mk H
         clear H
         go_wp2
         (try simp only [← hl6_1, ← hl6_2])
         go_roundg k2
         case measure => have := HK1.out; have := HK2.out; omega
         case rel => exact ⟨(x6_2), (wrap64 (x21_1 + 1)), Rs, H', ⟨by have := HK1.out; have := HK2.out; omega⟩, ⟨by (try simp only [hl6_1]); (try simp only [hl6_2]); (with_reducible repeat (first | apply Kd.R_alloc | apply Kd.R_drewN | apply Kd.R_drew)); exact HO_6.out⟩, ⟨Ub⟩⟩
     have c14b0 := decide_eq_false c14
     clear c14
     replace H := Ip H; obtain ⟨c27, H⟩ := H
     have c27b0 := decide_eq_true c27
     clear c27
     replace H := Ip H; obtain ⟨c28, H⟩ := H
     have c28b0 := decide_eq_true c28
     clear c28
     replace H := Ic H; rcases H with ⟨c29, H⟩ | ⟨c29, H⟩
     · have c29b0 : decide (1000000000000000 < (rd x6_1 a1)) = true := decide_eq_true c29
       clear c29
       simp only [Option.some.injEq, Prod.mk.injEq] at H
       obtain ⟨rfl, rfl⟩ := H
       have p374 : 0 ≤ (a1 : Int) := Oa
       have q374 : a1 < (x6_1.length : Int) := Oa
       obtain ⟨ad374, e374, hx374_0⟩ := Kd.at_int (Kd.R_reads' HO_6.out).2.2 a1 p374 q374
       obtain rfl : (⟨go9, 0, none⟩ : Addr) = ad374 := (by injection e374)
       (first | simp only [add_plain] at hx374_0 | simp only [add_at] at hx374_0 | simp only [Addr.add, Nat.zero_add] at hx374_0 | skip)
       replace p374 := eq_true p374
       replace q374 := eq_true q374
       go_wp2
       go_ret2
       exact ⟨by first | rfl | (simp [errW_none, errW_some] <;> rfl) | (simp only [← hji5]; first | rfl | (simp [errW_none, errW_some] <;> rfl)) | (simp [*, errW_none, errW_some] <;> rfl), Ub⟩
     have c29b0 : decide (1000000000000000 < (rd x6_1 a1)) = false := decide_eq_false c29
     clear c29
     simp only [Option.some.injEq, Prod.mk.injEq] at H
     obtain ⟨rfl, rfl⟩ := H
     have p374 : 0 ≤ (a1 : Int) := Oa
     have q374 : a1 < (x6_1.length : Int) := Oa
     obtain ⟨ad374, e374, hx374_0⟩ := Kd.at_int (Kd.R_reads' HO_6.out).2.2 a1 p374 q374
     obtain rfl : (⟨go9, 0, none⟩ : Addr) = ad374 := (by injection e374)
     (first | simp only [add_plain] at hx374_0 | simp only [add_at] at hx374_0 | simp only [Addr.add, Nat.zero_add] at hx374_0 | skip)
     replace p374 := eq_true p374
     replace q374 := eq_true q374
     have p375 : 0 ≤ (a1 : Int) := Oa
     have q375 : a1 < (x6_1.length : Int) := Oa
     obtain ⟨ad375, e375, hx375_0⟩ := Kd.at_int (Kd.R_reads' HO_6.out).2.2 a1 p375 q375
     obtain rfl : (⟨go9, 0, none⟩ : Addr) = ad375 := (by injection e375)
     (first | simp only [add_plain] at hx375_0 | simp only [add_at] at hx375_0 | simp only [Addr.add, Nat.zero_add] at hx375_0 | skip)
     replace p375 := eq_true p375
     replace q375 := eq_true q375
     go_wp2
     go_ret2
     exact ⟨by first | rfl | (simp [errW_none, errW_some] <;> rfl) | (simp only [← hji5]; first | rfl | (simp [errW_none, errW_some] <;> rfl)) | (simp [*, errW_none, errW_some] <;> rfl), Ub⟩
 simp only [Option.some.injEq, Prod.mk.injEq] at H
 obtain ⟨rfl, rfl⟩ := H
 go_enter Try.func18, Try.ntmps18
 go_wp2_with (first | (refine Gl 12 #[.slice A0 l0.length c0, .int .i64 a1] Try.func96 ?_; (with_reducible refine (spec_cnAsked.calls k _ _ l0 a1 false _ (Cm HR0.out) HC0.out A3.out).mono ?_); rintro e w' ⟨rfl, ⟨nd, rfl⟩⟩; refine ⟨_, rfl, ?_⟩))
 go_ret2
 exact ⟨Re, Ub⟩

/-! ### laws_tSame: function 19 -/
def laws_tSame.l0 : Nat → List Int → List Int → Int → Int → Option (Bool)
 | 0, _, _, _, _ => none
 | k + 1, x0, x1, x12, x13 => if x13 < x12 then (if 0 ≤ x13 then (if x13 < (x0.length : Int) then (if x13 < (x1.length : Int) then (if (rd x0 x13) = (rd x1 x13) then (laws_tSame.l0 k x0 x1 x12 (wrap64 (x13 + 1))) else (some false)) else (none)) else (none)) else (none)) else (some true)
def laws_tSame.f (k : Nat) (l0 : List Int) (l1 : List Int) : Option (Bool) := if (l0.length : Int) = (l1.length : Int) then (laws_tSame.l0 k l0 l1 (l0.length : Int) 0) else (some false)
theorem laws_tSame.calls (k : Nat) (A0 : Option Addr) (c0 : Nat) (l0 : List Int) (A1 : Option Addr) (c1 : Nat) (l1 : List Int) (r : Bool) (w : World) (hr0 : Kd.C (Kd.int .i64) w A0 l0.length l0) (hc0 : l0.length ≤ c0) (hr1 : Kd.C (Kd.int .i64) w A1 l1.length l1) (hc1 : l1.length ≤ c1) (h : laws_tSame.f k l0 l1 = some r) :
 Calls Try.prog 19 #[.slice A0 l0.length c0, .slice A1 l1.length c1] w fun e w' => e = .returned (.bool r) ∧ Drawn0 w w' := by
 have HR0 := Aside0.mk hr0
 have HC0 := Aside0.mk hc0
 clear hr0 hc0
 have HR1 := Aside0.mk hr1
 have HC1 := Aside0.mk hc1
 clear hr1 hc1
 have H := h; unfold laws_tSame.f at H
 clear h
 replace H := Ic H; rcases H with ⟨c3, H⟩ | ⟨c3, H⟩
 · have c3b0 : ((l0.length : Int) == (l1.length : Int)) = true := beq_iff_eq.mpr c3
   have c3b1 := bne_eq_false_iff_eq.mpr c3
   have c3b2 : (l0.length == l1.length) = true := by first | simpa using c3 | (simp at c3 ⊢; omega)
   clear c3
   have H' := Aside0.mk H
   clear H
   go_enter Try.func19, Try.ntmps19
   go_wp2
   repeat (go_quiet (fail); try go_wp2)
   go_loopg [13] k (fun kq v13 w' => ∃ (x13_1 : Int), v13 = .int .i64 x13_1 ∧ Aside0 (laws_tSame.l0 kq l0 l1 (l0.length : Int) x13_1 = some r) ∧ Aside0 (kq ≤ k) ∧ Drawn0 w w')
   case atStart => exact ⟨(0), Rs, H', ⟨Nat.le_refl _⟩, Dr⟩
   case round =>
    clear H'
    try clear c1
    try clear c3
    try clear c3b0
    try clear c3b1
    try clear c3b2
    obtain ⟨x13_1, rfl, HA, HK1, ⟨m1, rfl⟩⟩ := hrel
    cases gk with
    | zero => exact absurd HA.out (by simp [laws_tSame.l0])
    | succ k1 =>
     have H := HA.out
     clear HA
     simp only [laws_tSame.l0] at H
     replace H := Ic H; rcases H with ⟨c4, H⟩ | ⟨c4, H⟩
     · have c4b0 := decide_eq_true c4
       clear c4
       replace H := Ip H; obtain ⟨c5, H⟩ := H
       have c5b0 := decide_eq_true c5
       clear c5
       replace H := Ip H; obtain ⟨c6, H⟩ := H
       have c6b0 := decide_eq_true c6
       clear c6
       replace H := Ip H; obtain ⟨c7, H⟩ := H
       have c7b0 := decide_eq_true c7
       clear c7
       replace H := Ic H; rcases H with ⟨c8, H⟩ | ⟨c8, H⟩
       · have c8b0 : ((rd l0 x13_1) == (rd l1 x13_1)) = true := beq_iff_eq.mpr c8
         have c8b1 := bne_eq_false_iff_eq.mpr c8
         clear c8
         have H' := Aside0.mk H
         clear H
         obtain ⟨p381, q381, ad381, e381, hx381_0⟩ := Ai HR0.out x13_1
         cases e381
         obtain ⟨p382, q382, ad382, e382, hx382_0⟩ := Ai HR1.out x13_1
         cases e382
         go_wp2
         repeat (go_quiet (fail); try go_wp2)
         go_roundg k1
         case measure => have := HK1.out; omega
         case rel => exact ⟨(wrap64 (x13_1 + 1)), Rs, H', ⟨by have := HK1.out; omega⟩, Dr⟩
       have c8b0 : ((rd l0 x13_1) == (rd l1 x13_1)) = false := beq_eq_false_iff_ne.mpr c8
       have c8b1 := bne_iff_ne.mpr c8
       obtain rfl := Option.some.inj H
       obtain ⟨p381, q381, ad381, e381, hx381_0⟩ := Ai HR0.out x13_1
       cases e381
       obtain ⟨p382, q382, ad382, e382, hx382_0⟩ := Ai HR1.out x13_1
       cases e382
       go_wp2
       repeat (go_quiet (fail); try go_wp2)
       go_ret
       exact ⟨Rs, Dr⟩
     have c4b0 := decide_eq_false c4
     clear c4
     obtain rfl := Option.some.inj H
     go_wp2
     repeat (go_quiet (fail); try go_wp2)
     go_ret
     exact ⟨Rs, Dr⟩
 have c3b0 : ((l0.length : Int) == (l1.length : Int)) = false := beq_eq_false_iff_ne.mpr c3
 have c3b1 := bne_iff_ne.mpr c3
 have c3b2 : (l0.length == l1.length) = false := by first | simpa using c3 | (simp at c3 ⊢; omega)
 obtain rfl := Option.some.inj H
 go_enter Try.func19, Try.ntmps19
 go_wp2
 repeat (go_quiet (fail); try go_wp2)
 go_ret
 exact ⟨Rs, Dr⟩

/-! ### spec_AreCoins: function 21 -/
def spec_AreCoins.f (k : Nat) (l0 : List Int) : Option (Bool) := (spec_cnGood.f k l0).bind fun t383 => (some t383)
theorem spec_AreCoins.calls (k : Nat) (A0 : Option Addr) (c0 : Nat) (l0 : List Int) (r : Bool) (w : World) (hr0 : Kd.C (Kd.int .i64) w A0 l0.length l0) (hc0 : l0.length ≤ c0) (h : spec_AreCoins.f k l0 = some r) :
 Calls Try.prog 21 #[.slice A0 l0.length c0] w fun e w' => e = .returned (.bool r) ∧ Drawn0 w w' := by
 have HR0 := Aside0.mk hr0
 have HC0 := Aside0.mk hc0
 clear hr0 hc0
 have H := h; unfold spec_AreCoins.f at H
 clear h
 replace H := Option.bind_eq_some_iff.mp H
 obtain ⟨t383, A20, H⟩ := H
 have A2 := Aside0.mk A20
 clear A20
 obtain rfl := Option.some.inj H
 go_enter Try.func21, Try.ntmps21
 go_wp2_with (first | (refine Gl 4 #[.slice A0 l0.length c0] Try.func108 ?_; (with_reducible refine (spec_cnGood.calls k _ _ l0 t383 _ (Cm HR0.out) HC0.out A2.out).mono ?_); rintro e w' ⟨rfl, ⟨nd, rfl⟩⟩; refine ⟨_, rfl, ?_⟩))
 go_ret
 exact ⟨Rs, Dr⟩

/-! ### laws_tSum: function 22 -/
def laws_tSum.l0 : Nat → Int → List Int → Int → Int → Option (Int)
 | 0, _, _, _, _ => none
 | k + 1, x3, x6, x7, x8 => if x8 < x7 then (if 0 ≤ x8 then (if x8 < (x6.length : Int) then (laws_tSum.l0 k (wrap64 (x3 + (rd x6 x8))) x6 x7 (wrap64 (x8 + 1))) else (none)) else (none)) else (some x3)
def laws_tSum.f (k : Nat) (l0 : List Int) : Option (Int) := laws_tSum.l0 k 0 l0 (l0.length : Int) 0
theorem laws_tSum.calls (k : Nat) (A0 : Option Addr) (c0 : Nat) (l0 : List Int) (r : Int) (w : World) (hr0 : Kd.C (Kd.int .i64) w A0 l0.length l0) (hc0 : l0.length ≤ c0) (h : laws_tSum.f k l0 = some r) :
 Calls Try.prog 22 #[.slice A0 l0.length c0] w fun e w' => e = .returned (.int .i64 r) ∧ Drawn0 w w' := by
 have HR0 := Aside0.mk hr0
 have HC0 := Aside0.mk hc0
 clear hr0 hc0
 have H := h; unfold laws_tSum.f at H
 clear h
 have H' := Aside0.mk H
 clear H
 go_enter Try.func22, Try.ntmps22
 go_wp2
 go_loopg [3, 8] k (fun kq v3 v8 w' => ∃ (x3_1 : Int) (x8_1 : Int), v3 = .int .i64 x3_1 ∧ v8 = .int .i64 x8_1 ∧ Aside0 (laws_tSum.l0 kq x3_1 l0 (l0.length : Int) x8_1 = some r) ∧ Aside0 (kq ≤ k) ∧ Drawn0 w w')
 case atStart => exact ⟨(0), (0), Rs, Rs, H', ⟨Nat.le_refl _⟩, Dr⟩
 case round =>
  clear H'
  obtain ⟨x3_1, x8_1, rfl, rfl, HA, HK1, ⟨m1, rfl⟩⟩ := hrel
  cases gk with
  | zero => exact absurd HA.out (by simp [laws_tSum.l0])
  | succ k1 =>
   have H := HA.out
   clear HA
   simp only [laws_tSum.l0] at H
   replace H := Ic H; rcases H with ⟨c2, H⟩ | ⟨c2, H⟩
   · have c2b0 := decide_eq_true c2
     clear c2
     replace H := Ip H; obtain ⟨c3, H⟩ := H
     have c3b0 := decide_eq_true c3
     clear c3
     replace H := Ip H; obtain ⟨c4, H⟩ := H
     have c4b0 := decide_eq_true c4
     clear c4
     have H' := Aside0.mk H
     clear H
     obtain ⟨p384, q384, ad384, e384, hx384_0⟩ := Ai HR0.out x8_1
     cases e384
     go_wp2
     go_roundg k1
     case measure => have := HK1.out; omega
     case rel => exact ⟨(wrap64 (x3_1 + (rd l0 x8_1))), (wrap64 (x8_1 + 1)), Rs, Rs, H', ⟨by have := HK1.out; omega⟩, Dr⟩
   have c2b0 := decide_eq_false c2
   clear c2
   obtain rfl := Option.some.inj H
   go_wp2
   go_ret
   exact ⟨Rs, Dr⟩

end Go.Proofs.Ytjjajbgijncfoaa.PFnChangeGiven
