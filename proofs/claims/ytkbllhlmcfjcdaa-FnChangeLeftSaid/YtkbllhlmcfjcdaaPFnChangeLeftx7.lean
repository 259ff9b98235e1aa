-- MADE FOR THIS CLAIM by wip/xp/xprint.py (with the kit's print; some functions' contracts proved by hand)
import Derived.Test.YtkbllhlmcfjcdaaPFnChangeLeftx0
import Derived.Test.YtkbllhlmcfjcdaaPFnChangeLeftx1
import Derived.Test.YtkbllhlmcfjcdaaPFnChangeLeftx2
set_option maxHeartbeats 8000000
set_option maxRecDepth 100000
namespace Go.Proofs.Ytkbllhlmcfjcdaa.PFnChangeLeft
open Go.RowKit Go.Proofs.YtkbllhlmcfjcdaaW.PrintWords Go.Proofs.YtkbllhlmcfjcdaaW.PrintLast Go.Proofs.YtkbllhlmcfjcdaaW.PrintMore Go.Proofs.Ytkbllhlmcfjcdaa.Xmv
attribute [local go_sem] max2_int min2_int max_two min_two max_three min_three max_four min_four   -- for this text's walks alone
set_option linter.unusedVariables false
set_option linter.unusedSimpArgs false

/-! ### laws_tSame: function 11 -/
def laws_tSame.l0 : Nat → List Int → List Int → Int → Int → Option (Bool)
 | 0, _, _, _, _ => none
 | k + 1, x0, x1, x12, x13 => if x13 < x12 then (if 0 ≤ x13 then (if x13 < (x0.length : Int) then (if x13 < (x1.length : Int) then (if (rd x0 x13) = (rd x1 x13) then (laws_tSame.l0 k x0 x1 x12 (wrap64 (x13 + 1))) else (some false)) else (none)) else (none)) else (none)) else (some true)
def laws_tSame.f (k : Nat) (l0 : List Int) (l1 : List Int) : Option (Bool) := if (l0.length : Int) = (l1.length : Int) then (laws_tSame.l0 k l0 l1 (l0.length : Int) 0) else (some false)
theorem laws_tSame.calls (k : Nat) (A0 : Option Addr) (c0 : Nat) (l0 : List Int) (A1 : Option Addr) (c1 : Nat) (l1 : List Int) (r : Bool) (w : World) (hr0 : Kd.C (Kd.int .i64) w A0 l0.length l0) (hc0 : l0.length ≤ c0) (hr1 : Kd.C (Kd.int .i64) w A1 l1.length l1) (hc1 : l1.length ≤ c1) (h : laws_tSame.f k l0 l1 = some r) :
 Calls Try.prog 11 #[.slice A0 l0.length c0, .slice A1 l1.length c1] w fun e w' => e = .returned (.bool r) ∧ Drawn0 w w' := by
 have HR0 := Aside0.mk hr0
 have HC0 := Aside0.mk hc0
 clear hr0 hc0
 have HR1 := Aside0.mk hr1
 have HC1 := Aside0.mk hc1
 clear hr1 hc1
 have H := h; unfold laws_tSame.f at H
 clear h
 replace H := Ic H; rcases H with ⟨c3, H⟩ | ⟨c3, H⟩
 · have c3b0 : ((l0.length : Int) == (l1.length : Int)) = true := beq_iff_eq.mpr c3
   have c3b1 := bne_eq_false_iff_eq.mpr c3
   have c3b2 : (l0.length == l1.length) = true := by first | simpa using c3 | (simp at c3 ⊢; omega)
   clear c3
   have H' := Aside0.mk H
   clear H
   go_enter Try.func11, Try.ntmps11
   go_wp2
   repeat (go_quiet (fail); try go_wp2)
   go_loopg [13] k (fun kq v13 w' => ∃ (x13_1 : Int), v13 = .int .i64 x13_1 ∧ Aside0 (laws_tSame.l0 kq l0 l1 (l0.length : Int) x13_1 = some r) ∧ Aside0 (kq ≤ k) ∧ Drawn0 w w')
   case atStart => exact ⟨(0), Rs, H', ⟨Nat.le_refl _⟩, Dr⟩
   case round =>
    clear H'
    try clear c1
    try clear c3
    try clear c3b0
    try clear c3b1
    try clear c3b2
    obtain ⟨x13_1, rfl, HA, HK1, ⟨m1, rfl⟩⟩ := hrel
    cases gk with
    | zero => exact absurd HA.out (by simp [laws_tSame.l0])
    | succ k1 =>
     have H := HA.out
     clear HA
     simp only [laws_tSame.l0] at H
     replace H := Ic H; rcases H with ⟨c4, H⟩ | ⟨c4, H⟩
     · have c4b0 := decide_eq_true c4
       clear c4
       replace H := Ip H; obtain ⟨c5, H⟩ := H
       have c5b0 := decide_eq_true c5
       clear c5
       replace H := Ip H; obtain ⟨c6, H⟩ := H
       have c6b0 := decide_eq_true c6
       clear c6
       replace H := Ip H; obtain ⟨c7, H⟩ := H
       have c7b0 := decide_eq_true c7
       clear c7
       replace H := Ic H; rcases H with ⟨c8, H⟩ | ⟨c8, H⟩
       · have c8b0 : ((rd l0 x13_1) == (rd l1 x13_1)) = true := beq_iff_eq.mpr c8
         have c8b1 := bne_eq_false_iff_eq.mpr c8
         clear c8
         have H' := Aside0.mk H
         clear H
         obtain ⟨p376, q376, ad376, e376, hx376_0⟩ := Ai HR0.out x13_1
         cases e376
         obtain ⟨p377, q377, ad377, e377, hx377_0⟩ := Ai HR1.out x13_1
         cases e377
         go_wp2
         repeat (go_quiet (fail); try go_wp2)
         go_roundg k1
         case measure => have := HK1.out; omega
         case rel => exact ⟨(wrap64 (x13_1 + 1)), Rs, H', ⟨by have := HK1.out; omega⟩, Dr⟩
       have c8b0 : ((rd l0 x13_1) == (rd l1 x13_1)) = false := beq_eq_false_iff_ne.mpr c8
       have c8b1 := bne_iff_ne.mpr c8
       obtain rfl := Option.some.inj H
       obtain ⟨p376, q376, ad376, e376, hx376_0⟩ := Ai HR0.out x13_1
       cases e376
       obtain ⟨p377, q377, ad377, e377, hx377_0⟩ := Ai HR1.out x13_1
       cases e377
       go_wp2
       repeat (go_quiet (fail); try go_wp2)
       go_ret
       exact ⟨Rs, Dr⟩
     have c4b0 := decide_eq_false c4
     clear c4
     obtain rfl := Option.some.inj H
     go_wp2
     repeat (go_quiet (fail); try go_wp2)
     go_ret
     exact ⟨Rs, Dr⟩
 have c3b0 : ((l0.length : Int) == (l1.length : Int)) = false := beq_eq_false_iff_ne.mpr c3
 have c3b1 := bne_iff_ne.mpr c3
 have c3b2 : (l0.length == l1.length) = false := by first | simpa using c3 | (simp at c3 ⊢; omega)
 obtain rfl := Option.some.inj H
 go_enter Try.func11, Try.ntmps11
 go_wp2
 repeat (go_quiet (fail); try go_wp2)
 go_ret
 exact ⟨Rs, Dr⟩

/-! ### impl_fewStamps: function 56 -/
mutual
def impl_fewStamps.l0 : Nat → List Int → Int → List Int → Int → Option (List Int)
 | 0, _, _, _, _ => none
 | k + 1, x0, x1, x5, x6 => if x6 ≤ x1 then (if 0 ≤ x6 then (if x6 < (x5.length : Int) then (impl_fewStamps.l1 k x0 x1 (x5.set (x6 : Int).toNat (wrap64 (x1 + 1))) x6 x0 (x0.length : Int) 0) else (none)) else (none)) else (some x5)
def impl_fewStamps.l1 : Nat → List Int → Int → List Int → Int → List Int → Int → Int → Option (List Int)
 | 0, _, _, _, _, _, _, _ => none
 | k + 1, x0, x1, x5, x6, x22, x23, x24 => if x24 < x23 then (if 0 ≤ x24 then (if x24 < (x22.length : Int) then (if (rd x22 x24) ≤ x6 then (if 0 ≤ x6 then (if x6 < (x5.length : Int) then (if 0 ≤ (wrap64 (x6 - (rd x22 x24))) then (if (wrap64 (x6 - (rd x22 x24))) < (x5.length : Int) then (impl_fewStamps.l1 k x0 x1 (x5.set (x6 : Int).toNat (mn (rd x5 x6) (wrap64 ((rd x5 (wrap64 (x6 - (rd x22 x24)))) + 1)))) x6 x22 x23 (wrap64 (x24 + 1))) else (none)) else (none)) else (none)) else (none)) else (impl_fewStamps.l1 k x0 x1 x5 x6 x22 x23 (wrap64 (x24 + 1)))) else (none)) else (none)) else (impl_fewStamps.l0 k x0 x1 x5 (wrap64 (x6 + 1)))
end
def impl_fewStamps.f (k : Nat) (l0 : List Int) (a1 : Int) : Option (List Int) := if 0 ≤ (wrap64 (a1 + 1)) then (if (wrap64 (a1 + 1) : Int).toNat ≤ 35184372088832 then (impl_fewStamps.l0 k l0 a1 (List.replicate (wrap64 (a1 + 1) : Int).toNat 0) 1) else (none)) else (none)
def impl_fewStamps.T10 : Bool × List (List Nat × List Nat) := (true, [([], []), ([], []), ([], []), ([], []), ([2, 3], [2, 3]), ([4], [4]), ([], []), ([], []), ([], []), ([7, 8], [7, 8]), ([6, 9], [6, 9]), ([10], [10]), ([11], [11]), ([5, 12], [5, 12]), ([0, 1, 0, 1, 2, 3, 4, 5, 6, 7, 8, 9, 10, 11, 12, 13], [0, 1]), ([14, 13, 0, 1, 2, 3, 4, 5, 6, 7, 8, 9, 10, 11, 12, 13], [13, 14])])
def impl_fewStamps.B10 : List Nat := [0, 0, 0, 0, 12, 28, 0, 0, 0, 384, 960, 1984, 4032, 8188, 16383, 32767]
theorem impl_fewStamps.tab10 : rtab .any (opsOf Try.f56 10) = impl_fewStamps.T10 := by kernel_rfl
theorem impl_fewStamps.bits10 : waitsOk impl_fewStamps.T10.2 impl_fewStamps.B10 = true := by kernel_rfl
theorem impl_fewStamps.calls (k : Nat) (A0 : Option Addr) (c0 : Nat) (l0 : List Int) (a1 : Int) (r : List Int) (w : World) (hr0 : Kd.C (Kd.int .i64) w A0 l0.length l0) (hc0 : l0.length ≤ c0) (h : impl_fewStamps.f k l0 a1 = some r) :
 Calls Try.prog 56 #[.slice A0 l0.length c0, .int .i64 a1] w fun e w' => ∃ v0_ : Value, e = .returned (v0_) ∧ Kd.R (Kd.int .i64) 3 w' w.heap.size (fun _ => True) v0_ r ∧ Below w.heap.size w w' := by
 have HR0 := Aside0.mk hr0
 have HC0 := Aside0.mk hc0
 clear hr0 hc0
 have HB := Aside0.mk (Below.refl w.heap.size w)
 have H := h; unfold impl_fewStamps.f at H
 clear h
 obtain ⟨ji3, hji3⟩ : ∃ j_ : Int, (wrap64 (a1 + 1)) = j_ := ⟨_, rfl⟩
 replace H : (if 0 ≤ (ji3) then (if (ji3 : Int).toNat ≤ 35184372088832 then (impl_fewStamps.l0 k l0 a1 (List.replicate (ji3 : Int).toNat 0) 1) else (none)) else (none)) = some r := by first | (rw [hji3] at H; exact H) | (simp only [hji3] at H ⊢; exact H)
 have hji3w : (IntKind.i64.wrap (a1 + 1)) = ji3 := (i64_w _).trans hji3
 replace H := Ic H; rcases H with ⟨c4, H⟩ | ⟨c4, H⟩
 · have c4b0 := eq_true c4
   have c4b1 := decide_eq_true c4
   clear c4
   replace H := Ip H; obtain ⟨c5, H⟩ := H
   have c5b0 := eq_true c5
   have c5b1 := decide_eq_true c5
   clear c5
   obtain ⟨y378, hy378⟩ : ∃ y_ : List Int, y_ = (List.replicate (ji3 : Int).toNat 0) := ⟨_, rfl⟩
   replace H : (impl_fewStamps.l0 k l0 a1 y378 1) = some r := by first | (rw [hy378]; with_reducible exact H) | (have H2_ := (Option.bind_some _ _).symm.trans H; rw [hy378]; with_reducible exact H2_) | (have H2_ := (Option.bind_some _ _).symm.trans H; with_reducible exact H2_) | with_reducible exact H | (rw [hy378]; exact H) | exact H
   have Ny378 := Aside0.mk hy378
   clear hy378
   have H' := Aside0.mk H
   clear H
   go_enter Try.func56, Try.ntmps56
   go_wp2_with (first | ((with_reducible refine gate_dst (N := 11) rfl ?_); refine Kd.R_make (Kd.int .i64) _ 3 rfl (N := 11) rfl 24 _ _ rfl ji3 rfl rfl Try.underlying24 (.int .i64 0) 8 info3 rfl (by decide) (by omega) 0 (ok := fun _ => True) (okp := fun _ => True) rfl (fun _ hk => hk) trivial (Oa) (Nat.le_trans (Nat.mul_le_mul_right _ (Oa : ji3.toNat ≤ 35184372088832)) (by omega)) (Below.refl _ _) (Nat.le_refl _) ?_; intro v379 w6 ho7 hb hg_ hnew_; clear hg_ hnew_; (first | rw [← Ny378.out] at ho7 | (simp only [Int.reduceToNat] at ho7; rw [← Ny378.out] at ho7)); have HO380 := Aside0.mk (Kd.R_lower ho7 (below_size Ub)); replace HB := Aside0.mk (below_step Ub hb); clear hb ho7))
   go_loopg [6] k (fun kq v6 w' => ∃ (x5_1 : List Int) (x6_1 : Int), v6 = .int .i64 x6_1 ∧ Aside0 (impl_fewStamps.l0 kq l0 a1 x5_1 x6_1 = some r) ∧ Aside0 (kq ≤ k) ∧ Aside0 (Kd.R (Kd.int .i64) 3 w' w.heap.size (fun _ => True) v379 x5_1) ∧ Aside0 (Below w.heap.size w w'))
   case atStart => exact ⟨(y378), (1), Rs, H', ⟨Nat.le_refl _⟩, ⟨Rm HO380.out⟩, ⟨Ub⟩⟩
   case round =>
    clear H'
    try clear c4
    try clear c4b0
    try clear c4b1
    try clear c5
    try clear c5b0
    try clear c5b1
    obtain ⟨x5_1, x6_1, rfl, HA, HK1, HO_5, HB⟩ := hrel
    cases gk with
    | zero => exact absurd HA.out (by simp [impl_fewStamps.l0])
    | succ k1 =>
     have H := HA.out
     clear HA
     simp only [impl_fewStamps.l0] at H
     replace H := Ic H; rcases H with ⟨c8, H⟩ | ⟨c8, H⟩
     · have c8b0 := decide_eq_true c8
       clear c8
       replace H := Ip H; obtain ⟨c9, H⟩ := H
       have c9b0 := decide_eq_true c9
       clear c9
       replace H := Ip H; obtain ⟨c10, H⟩ := H
       have c10b0 := decide_eq_true c10
       clear c10
       obtain ⟨y381, hy381⟩ : ∃ y_ : List Int, y_ = (x5_1.set (x6_1 : Int).toNat (wrap64 (a1 + 1))) := ⟨_, rfl⟩
       replace H : (impl_fewStamps.l1 k1 l0 a1 y381 x6_1 l0 (l0.length : Int) 0) = some r := by first | (rw [hy381]; with_reducible exact H) | (have H2_ := (Option.bind_some _ _).symm.trans H; rw [hy381]; with_reducible exact H2_) | (have H2_ := (Option.bind_some _ _).symm.trans H; with_reducible exact H2_) | with_reducible exact H | (rw [hy381]; exact H) | exact H
       have Ny381 := Aside0.mk hy381
       clear hy381
       have H' := Aside0.mk H
       clear H
       have p11 : 0 ≤ (x6_1 : Int) := Oa
       have q11 : (x6_1 : Int) < ((x5_1.length : Int) : Int) := Oa
       obtain ⟨go11, co11, eo11, gb11, gl11, cl11, HG11⟩ := Kd.R_form HO_5.out (by omega)
       (first | cases eo11 | (injection eo11 with ea_ en_ ec_; (first | subst ea_ | (injection ea_ with ea_; subst ea_)); subst ec_; clear en_))
       have GB11 := Aside0.mk gb11
       have GG11 := Aside0.mk HG11
       clear gb11 gl11 HG11
       obtain ⟨hx11_0, hf11_0⟩ := Kd.R_celln 0 HO_5.out (x6_1 : Int) p11 q11
       replace p11 := eq_true p11
       replace q11 := eq_true q11
       have HP12 := Kd.R_putg HO_5.out (x6_1 : Int) (wrap64 (a1 + 1))
       go_wp2_with (first | ((with_reducible refine gate_store (t := 3) (p := 21) rfl ?_); refine store_event (t := 3) (p := 21) (v := ?vo_w13) (w1 := (wr.setCell ⟨go11, (x6_1 : Int).toNat, none⟩ (.int .i64 (wrap64 (a1 + 1))))) ?hg ?ho ?hn ?hr ?_; (case ho => rfl); (case hg => rfl); (case hn => rfl); (case hr => first | (go_simp; done) | (go_simp; rfl)); intro w13 hw; have hg : wr.grownBy w13 (some go11) := (by rw [hw]; exact HP12.2); have hp_ : Kd.R (Kd.int .i64) 3 w13 w.heap.size (fun _ => True) (.slice (some ⟨go11, 0, none⟩) x5_1.length co11) y381 := (by rw [hw, Ny381.out]; exact HP12.1); clear HP12; replace HO_5 := Aside0.mk (hp_); replace HB := Aside0.mk ((by rw [hw]; exact below_set (HB.out) GB11.out : Below w.heap.size w w13)); clear hg hw hp_))
       go_loopg [24] k1 (fun kq v24 w' => ∃ (x5_2 : List Int) (x24_2 : Int), v24 = .int .i64 x24_2 ∧ Aside0 (impl_fewStamps.l1 kq l0 a1 x5_2 x6_1 l0 (l0.length : Int) x24_2 = some r) ∧ Aside0 (kq ≤ k1) ∧ Aside0 (Kd.R (Kd.int .i64) 3 w' w.heap.size (fun _ => True) (.slice (some ⟨go11, 0, none⟩) x5_1.length co11) x5_2) ∧ Aside0 (Below w.heap.size w w'))
       case atStart => exact ⟨(y381), (0), Rs, H', ⟨Nat.le_refl _⟩, ⟨Rm HO_5.out⟩, ⟨Ub⟩⟩
       case round =>
        clear H'
        try clear c4
        try clear c4b0
        try clear c4b1
        try clear c5
        try clear c5b0
        try clear c5b1
        try clear c8
        try clear c8b0
        try clear c9
        try clear c9b0
        try clear c10
        try clear c10b0
        try clear p11
        try clear q11
        try clear hx11_0
        try clear p11
        try clear q11
        obtain ⟨x5_2, x24_2, rfl, HA, HK2, HO_5, HB⟩ := hrel
        have hl5_2 := (Kd.R_reads' HO_5.out).1
        rw [hl5_2] at HO_5
        (try simp only [hl5_2])
        cases gk with
        | zero => exact absurd HA.out (by simp [impl_fewStamps.l1])
        | succ k2 =>
         have H := HA.out
         clear HA
         simp only [impl_fewStamps.l1] at H
         replace H := Ic H; rcases H with ⟨c14, H⟩ | ⟨c14, H⟩
         · have c14b0 := decide_eq_true c14
           clear c14
           replace H := Ip H; obtain ⟨c15, H⟩ := H
           have c15b0 := decide_eq_true c15
           clear c15
           replace H := Ip H; obtain ⟨c16, H⟩ := H
           have c16b0 := decide_eq_true c16
           clear c16
           replace H := Ic H; rcases H with ⟨c17, H⟩ | ⟨c17, H⟩
           · have c17b0 := decide_eq_true c17
             clear c17
             replace H := Ip H; obtain ⟨c18, H⟩ := H
             have c18b0 := decide_eq_true c18
             clear c18
             replace H := Ip H; obtain ⟨c19, H⟩ := H
             have c19b0 := decide_eq_true c19
             clear c19
             obtain ⟨ji20, hji20⟩ : ∃ j_ : Int, (wrap64 (x6_1 - (rd l0 x24_2))) = j_ := ⟨_, rfl⟩
             replace H : (if 0 ≤ (ji20) then (if (ji20) < (x5_2.length : Int) then (impl_fewStamps.l1 k2 l0 a1 (x5_2.set (x6_1 : Int).toNat (mn (rd x5_2 x6_1) (wrap64 ((rd x5_2 (ji20)) + 1)))) x6_1 l0 (l0.length : Int) (wrap64 (x24_2 + 1))) else (none)) else (none)) = some r := by first | (rw [hji20] at H; exact H) | (simp only [hji20] at H ⊢; exact H)
             have hji20w : (IntKind.i64.wrap (x6_1 - (rd l0 x24_2))) = ji20 := (i64_w _).trans hji20
             replace H := Ip H; obtain ⟨c21, H⟩ := H
             have c21b0 := decide_eq_true c21
             clear c21
             replace H := Ip H; obtain ⟨c22, H⟩ := H
             have c22b0 := decide_eq_true c22
             clear c22
             obtain ⟨ji23, hji23⟩ : ∃ j_ : Int, (mn (rd x5_2 x6_1) (wrap64 ((rd x5_2 (ji20)) + 1))) = j_ := ⟨_, rfl⟩
             replace H : (impl_fewStamps.l1 k2 l0 a1 (x5_2.set (x6_1 : Int).toNat (ji23)) x6_1 l0 (l0.length : Int) (wrap64 (x24_2 + 1))) = some r := by first | (rw [hji23] at H; exact H) | (simp only [hji23] at H ⊢; exact H)
             have hji23_ : (if (wrap64 ((rd x5_2 (ji20)) + 1)) < (rd x5_2 x6_1) then (wrap64 ((rd x5_2 (ji20)) + 1)) else (rd x5_2 x6_1)) = ji23 := hji23
             obtain ⟨y385, hy385⟩ : ∃ y_ : List Int, y_ = (x5_2.set (x6_1 : Int).toNat (ji23)) := ⟨_, rfl⟩
             replace H : (impl_fewStamps.l1 k2 l0 a1 y385 x6_1 l0 (l0.length : Int) (wrap64 (x24_2 + 1))) = some r := by first | (rw [hy385]; with_reducible exact H) | (have H2_ := (Option.bind_some _ _).symm.trans H; rw [hy385]; with_reducible exact H2_) | (have H2_ := (Option.bind_some _ _).symm.trans H; with_reducible exact H2_) | with_reducible exact H | (rw [hy385]; exact H) | exact H
             have Ny385 := Aside0.mk hy385
             clear hy385
             have H' := Aside0.mk H
             clear H
             obtain ⟨p382, q382, ad382, e382, hx382_0⟩ := Ai HR0.out x24_2
             cases e382
             replace hx382_0 := (HB.out.cell (World.block_lt_of_cell? w _ hx382_0)).trans hx382_0
             try go_wp2
             replace HO_5 := Aside0.mk (Kd.R_drew HO_5.out); replace HB := Aside0.mk (below_drew1 HB.out)
             have p383 : 0 ≤ (x6_1 : Int) := Oa
             have q383 : x6_1 < (x5_2.length : Int) := Oa
             obtain ⟨ad383, e383, hx383_0⟩ := Kd.at_int (Kd.R_reads' HO_5.out).2.2 x6_1 p383 q383
             obtain rfl : (⟨go11, 0, none⟩ : Addr) = ad383 := (by injection e383)
             (first | simp only [add_plain] at hx383_0 | simp only [add_at] at hx383_0 | simp only [Addr.add, Nat.zero_add] at hx383_0 | skip)
             replace p383 := eq_true p383
             replace q383 := eq_true q383
             have p384 : 0 ≤ ((ji20) : Int) := Oa
             have q384 : (ji20) < (x5_2.length : Int) := Oa
             obtain ⟨ad384, e384, hx384_0⟩ := Kd.at_int (Kd.R_reads' HO_5.out).2.2 (ji20) p384 q384
             obtain rfl : (⟨go11, 0, none⟩ : Addr) = ad384 := (by injection e384)
             (first | simp only [add_plain] at hx384_0 | simp only [add_at] at hx384_0 | simp only [Addr.add, Nat.zero_add] at hx384_0 | skip)
             replace p384 := eq_true p384
             replace q384 := eq_true q384
             have p24 : 0 ≤ (x6_1 : Int) := Oa
             have q24 : (x6_1 : Int) < ((x5_2.length : Int) : Int) := Oa
             obtain ⟨hx24_0, hf24_0⟩ := Kd.R_celln 0 HO_5.out (x6_1 : Int) p24 q24
             replace p24 := eq_true p24
             replace q24 := eq_true q24
             have HP26 := Kd.R_putn HO_5.out (x6_1 : Int) ji23
             rw [← Ny385.out] at HP26
             have HQ26 := Aside0.mk HP26
             clear HP26
             refine start_ (n := 16) (S := fun w' => w'.cell? ⟨go11, (x6_1).toNat, none⟩ = some (.int .i64 (rd x5_2 x6_1)) ∧ w'.cell? ⟨go11, ((ji20)).toNat, none⟩ = some (.int .i64 (rd x5_2 (ji20)))) (ds := [15]) #[false, false, false, false, false, false, false, false, false, false, false, false, false, false, false, false] (by kernel_rfl) rfl rfl ⟨hx383_0, hx384_0⟩ (fun hHeld => ?_); refine with_tabW impl_fewStamps.tab10 impl_fewStamps.bits10 (fun HT_ HW_ => ?_)
             generalize wr.drew = w25 at HO_5 HB HQ26 hf24_0 hx24_0 hx383_0 hx384_0 hHeld ⊢
             refine Pu 0 31 #[true, false, false, false, false, false, false, false, false, false, false, false, false, false, false, false] HT_.out ?_
             refine Pu 1 32 #[true, true, false, false, false, false, false, false, false, false, false, false, false, false, false, false] HT_.out ?_
             refine Pu 2 33 #[true, true, true, false, false, false, false, false, false, false, false, false, false, false, false, false] HT_.out ?_
             refine Pu 3 34 #[true, true, true, true, false, false, false, false, false, false, false, false, false, false, false, false] HT_.out ?_
             refine Pu 4 35 #[true, true, true, true, true, false, false, false, false, false, false, false, false, false, false, false] HT_.out ?_
             refine Pu 6 37 #[true, true, true, true, true, false, true, false, false, false, false, false, false, false, false, false] HT_.out ?_
             refine Pu 7 38 #[true, true, true, true, true, false, true, true, false, false, false, false, false, false, false, false] HT_.out ?_
             refine Pu 8 39 #[true, true, true, true, true, false, true, true, true, false, false, false, false, false, false, false] HT_.out ?_
             refine Pu 9 40 #[true, true, true, true, true, false, true, true, true, true, false, false, false, false, false, false] HT_.out ?_
             refine Pu 10 41 #[true, true, true, true, true, false, true, true, true, true, true, false, false, false, false, false] HT_.out ?_
             refine take_ (i := 5) (N := some 36) (v := ?_) (a' := ?_) #[true, true, true, true, true, true, true, true, true, true, true, false, false, false, false, false] rfl rfl (take_ofW HT_.out HW_.out (by kernel_rfl)) (fun _ _ _ h => h) (Or.inl ⟨by rfl, ?_⟩) hHeld ?_ ?_
             rotate_left
             · rintro w' ⟨s0, s1⟩
               go_simp
               with_reducible rfl
             rotate_left
             · simp only [Act.put, List.setIfInBounds_toArray, List.set_cons_zero, List.set_cons_succ, i64_w, i32_w]
               rfl
             refine take_ (i := 11) (N := some 42) (v := ?_) (a' := ?_) #[true, true, true, true, true, true, true, true, true, true, true, true, false, false, false, false] rfl rfl (take_ofW HT_.out HW_.out (by kernel_rfl)) (fun _ _ _ h => h) (Or.inl ⟨by rfl, ?_⟩) hHeld ?_ ?_
             rotate_left
             · rintro w' ⟨s0, s1⟩
               go_simp
               with_reducible rfl
             rotate_left
             · simp only [Act.put, List.setIfInBounds_toArray, List.set_cons_zero, List.set_cons_succ, i64_w, i32_w]
               rfl
             refine Pu 12 43 #[true, true, true, true, true, true, true, true, true, true, true, true, true, false, false, false] HT_.out ?_
             refine Pu 13 44 #[true, true, true, true, true, true, true, true, true, true, true, true, true, true, false, false] HT_.out ?_
             refine Pu 14 45 #[true, true, true, true, true, true, true, true, true, true, true, true, true, true, true, false] HT_.out ?_
             refine last_ (i := 15) (N := none) #[true, true, true, true, true, true, true, true, true, true, true, true, true, true, true, true] rfl rfl (one_of HT_.out (by kernel_rfl)) (by decide) (fun K hK => ?_)
             refine skip_ (w1 := ?_) (by rfl) rfl ?_ ?_
             rotate_left
             · go_simp
               rfl
             refine hK.out _ _ ?_
             clear hK K
             refine done_ (done_of HT_.out (by kernel_rfl)) ?_
             try go_wp2
             (try simp only [← hl5_2])
             go_roundg k2
             case measure => have := HK1.out; have := HK2.out; omega
             case rel => exact ⟨(y385), (wrap64 (x24_2 + 1)), Rs, H', ⟨by have := HK1.out; have := HK2.out; omega⟩, ⟨by (try simp only [hl5_2]); (with_reducible repeat (first | apply Kd.R_alloc | apply Kd.R_drewN | apply Kd.R_drew)); exact HQ26.out⟩, ⟨by repeat (first | (with_reducible first | exact HB.out | apply below_alloc | apply pw_below_drewN | apply below_drew1 | refine below_set ?_ GB11.out) | exact HB.out)⟩⟩
           have c17b0 := decide_eq_false c17
           (try rw [hl5_2] at c17b0)
           clear c17
           have H' := Aside0.mk H
           clear H
           obtain ⟨p382, q382, ad382, e382, hx382_0⟩ := Ai HR0.out x24_2
           cases e382
           replace hx382_0 := (HB.out.cell (World.block_lt_of_cell? w _ hx382_0)).trans hx382_0
           go_wp2
           (try simp only [← hl5_2])
           go_roundg k2
           case measure => have := HK1.out; have := HK2.out; omega
           case rel => exact ⟨(x5_2), (wrap64 (x24_2 + 1)), Rs, H', ⟨by have := HK1.out; have := HK2.out; omega⟩, ⟨by (try simp only [hl5_2]); (with_reducible repeat (first | apply Kd.R_alloc | apply Kd.R_drewN | apply Kd.R_drew)); exact HO_5.out⟩, ⟨Ub⟩⟩
         have c14b0 := decide_eq_false c14
         (try rw [hl5_2] at c14b0)
         clear c14
         have H' := Aside0.mk H
         clear H
         go_wp2
         (try simp only [← hl5_2])
         go_roundg k2
         case measure => have := HK1.out; have := HK2.out; omega
         case rel => exact ⟨(x5_2), (wrap64 (x6_1 + 1)), Rs, H', ⟨by have := HK1.out; have := HK2.out; omega⟩, ⟨by (try simp only [hl5_2]); (with_reducible repeat (first | apply Kd.R_alloc | apply Kd.R_drewN | apply Kd.R_drew)); exact HO_5.out⟩, ⟨Ub⟩⟩
     have c8b0 := decide_eq_false c8
     (try rw [hl5_2] at c8b0)
     clear c8
     obtain rfl := Option.some.inj H
     go_wp2
     go_ret
     exact ⟨_, by first | rfl | (simp [errW_none, errW_some] <;> rfl) | (simp only [← hji3]; first | rfl | (simp [errW_none, errW_some] <;> rfl)) | (simp [*, errW_none, errW_some] <;> rfl), Rm HO_5.out, Ub⟩
 exact absurd H (by simp)

/-! ### impl_FewestCoins: function 12 -/
def impl_FewestCoins.f (k : Nat) (l0 : List Int) (a1 : Int) : Option (Int × Bool) := (impl_isAmount.f k l0 a1).bind fun t386 => (if t386 = true then ((impl_fewStamps.f k l0 a1).bind fun t387 => (if 0 ≤ a1 then (if a1 < (t387.length : Int) then (if (rd t387 a1) > a1 then (some (0, false)) else (some (rd t387 a1, true))) else (none)) else (none))) else (some (0, false)))
theorem impl_FewestCoins.calls (k : Nat) (A0 : Option Addr) (c0 : Nat) (l0 : List Int) (a1 : Int) (r1 : Int) (r2 : Bool) (w : World) (hr0 : Kd.C (Kd.int .i64) w A0 l0.length l0) (hc0 : l0.length ≤ c0) (h : impl_FewestCoins.f k l0 a1 = some (r1, r2)) :
 Calls Try.prog 12 #[.slice A0 l0.length c0, .int .i64 a1] w fun e w' => e = .returned (.tuple #[.int .i64 r1, .bool r2]) ∧ Below w.heap.size w w' := by
 have HR0 := Aside0.mk hr0
 have HC0 := Aside0.mk hc0
 clear hr0 hc0
 have HB := Aside0.mk (Below.refl w.heap.size w)
 have H := h; unfold impl_FewestCoins.f at H
 clear h
 replace H := Option.bind_eq_some_iff.mp H
 obtain ⟨t386, A30, H⟩ := H
 have A3 := Aside0.mk A30
 clear A30
 replace H := Iw H; rcases H with ⟨rfl, H⟩ | ⟨rfl, H⟩
 · replace H := Option.bind_eq_some_iff.mp H
   obtain ⟨t387, A50, H⟩ := H
   have A5 := Aside0.mk A50
   clear A50
   replace H := Ip H; obtain ⟨c6, H⟩ := H
   have c6b0 := decide_eq_true c6
   clear c6
   replace H := Ip H; obtain ⟨c7, H⟩ := H
   have c7b0 := decide_eq_true c7
   clear c7
   replace H := Ic H; rcases H with ⟨c8, H⟩ | ⟨c8, H⟩
   · have c8b0 : decide (a1 < (rd t387 a1)) = true := decide_eq_true c8
     clear c8
     simp only [Option.some.injEq, Prod.mk.injEq] at H
     obtain ⟨rfl, rfl⟩ := H
     go_enter Try.func12, Try.ntmps12
     go_wp2_with (first | (refine Gl 9 #[.slice A0 l0.length c0, .int .i64 a1] Try.func55 ?_; (with_reducible refine (impl_isAmount.calls k _ _ l0 a1 true _ (Cm HR0.out) HC0.out A3.out).mono ?_); rintro e w9 ⟨rfl, hb⟩; refine ⟨_, rfl, ?_⟩; replace HB := Aside0.mk (below_step Ub hb); clear hb) | (refine Gl 13 #[.slice A0 l0.length c0, .int .i64 a1] Try.func56 ?_; (with_reducible refine (impl_fewStamps.calls k _ _ l0 a1 t387 _ (Cm (Kd.C_below HR0.out HB.out)) HC0.out A5.out).mono ?_); rintro e w10 ⟨v388, rfl, ho0, hb⟩; refine ⟨_, rfl, ?_⟩; have HO389 := Aside0.mk (Kd.R_lower ho0 (below_size Ub)); replace HB := Aside0.mk (below_step Ub hb); clear hb ho0; obtain ⟨Ao11, co11, eo11⟩ := Kd.R_slice HO389.out; subst eo11; have p390 : 0 ≤ (a1 : Int) := Oa; have q390 : a1 < (t387.length : Int) := Oa; obtain ⟨ad390, e390, hx390_0⟩ := Kd.at_int (Kd.R_reads' HO389.out).2.2 a1 p390 q390; cases e390; replace p390 := eq_true p390; replace q390 := eq_true q390))
     go_ret2
     exact ⟨Re, Ub⟩
   have c8b0 : decide (a1 < (rd t387 a1)) = false := decide_eq_false c8
   clear c8
   simp only [Option.some.injEq, Prod.mk.injEq] at H
   obtain ⟨rfl, rfl⟩ := H
   go_enter Try.func12, Try.ntmps12
   go_wp2_with (first | (refine Gl 9 #[.slice A0 l0.length c0, .int .i64 a1] Try.func55 ?_; (with_reducible refine (impl_isAmount.calls k _ _ l0 a1 true _ (Cm HR0.out) HC0.out A3.out).mono ?_); rintro e w12 ⟨rfl, hb⟩; refine ⟨_, rfl, ?_⟩; replace HB := Aside0.mk (below_step Ub hb); clear hb) | (refine Gl 13 #[.slice A0 l0.length c0, .int .i64 a1] Try.func56 ?_; (with_reducible refine (impl_fewStamps.calls k _ _ l0 a1 t387 _ (Cm (Kd.C_below HR0.out HB.out)) HC0.out A5.out).mono ?_); rintro e w13 ⟨v388, rfl, ho0, hb⟩; refine ⟨_, rfl, ?_⟩; have HO389 := Aside0.mk (Kd.R_lower ho0 (below_size Ub)); replace HB := Aside0.mk (below_step Ub hb); clear hb ho0; obtain ⟨Ao14, co14, eo14⟩ := Kd.R_slice HO389.out; subst eo14; have p390 : 0 ≤ (a1 : Int) := Oa; have q390 : a1 < (t387.length : Int) := Oa; obtain ⟨ad390, e390, hx390_0⟩ := Kd.at_int (Kd.R_reads' HO389.out).2.2 a1 p390 q390; cases e390; replace p390 := eq_true p390; replace q390 := eq_true q390))
   go_ret2
   exact ⟨Re, Ub⟩
 simp only [Option.some.injEq, Prod.mk.injEq] at H
 obtain ⟨rfl, rfl⟩ := H
 go_enter Try.func12, Try.ntmps12
 go_wp2_with (first | (refine Gl 9 #[.slice A0 l0.length c0, .int .i64 a1] Try.func55 ?_; (with_reducible refine (impl_isAmount.calls k _ _ l0 a1 false _ (Cm HR0.out) HC0.out A3.out).mono ?_); rintro e w15 ⟨rfl, hb⟩; refine ⟨_, rfl, ?_⟩; replace HB := Aside0.mk (below_step Ub hb); clear hb))
 go_ret2
 exact ⟨Re, Ub⟩

/-! ### laws_tSum: function 13 -/
def laws_tSum.l0 : Nat → Int → List Int → Int → Int → Option (Int)
 | 0, _, _, _, _ => none
 | k + 1, x3, x6, x7, x8 => if x8 < x7 then (if 0 ≤ x8 then (if x8 < (x6.length : Int) then (laws_tSum.l0 k (wrap64 (x3 + (rd x6 x8))) x6 x7 (wrap64 (x8 + 1))) else (none)) else (none)) else (some x3)
def laws_tSum.f (k : Nat) (l0 : List Int) : Option (Int) := laws_tSum.l0 k 0 l0 (l0.length : Int) 0
theorem laws_tSum.calls (k : Nat) (A0 : Option Addr) (c0 : Nat) (l0 : List Int) (r : Int) (w : World) (hr0 : Kd.C (Kd.int .i64) w A0 l0.length l0) (hc0 : l0.length ≤ c0) (h : laws_tSum.f k l0 = some r) :
 Calls Try.prog 13 #[.slice A0 l0.length c0] w fun e w' => e = .returned (.int .i64 r) ∧ Drawn0 w w' := by
 have HR0 := Aside0.mk hr0
 have HC0 := Aside0.mk hc0
 clear hr0 hc0
 have H := h; unfold laws_tSum.f at H
 clear h
 have H' := Aside0.mk H
 clear H
 go_enter Try.func13, Try.ntmps13
 go_wp2
 go_loopg [3, 8] k (fun kq v3 v8 w' => ∃ (x3_1 : Int) (x8_1 : Int), v3 = .int .i64 x3_1 ∧ v8 = .int .i64 x8_1 ∧ Aside0 (laws_tSum.l0 kq x3_1 l0 (l0.length : Int) x8_1 = some r) ∧ Aside0 (kq ≤ k) ∧ Drawn0 w w')
 case atStart => exact ⟨(0), (0), Rs, Rs, H', ⟨Nat.le_refl _⟩, Dr⟩
 case round =>
  clear H'
  obtain ⟨x3_1, x8_1, rfl, rfl, HA, HK1, ⟨m1, rfl⟩⟩ := hrel
  cases gk with
  | zero => exact absurd HA.out (by simp [laws_tSum.l0])
  | succ k1 =>
   have H := HA.out
   clear HA
   simp only [laws_tSum.l0] at H
   replace H := Ic H; rcases H with ⟨c2, H⟩ | ⟨c2, H⟩
   · have c2b0 := decide_eq_true c2
     clear c2
     replace H := Ip H; obtain ⟨c3, H⟩ := H
     have c3b0 := decide_eq_true c3
     clear c3
     replace H := Ip H; obtain ⟨c4, H⟩ := H
     have c4b0 := decide_eq_true c4
     clear c4
     have H' := Aside0.mk H
     clear H
     obtain ⟨p391, q391, ad391, e391, hx391_0⟩ := Ai HR0.out x8_1
     cases e391
     go_wp2
     go_roundg k1
     case measure => have := HK1.out; omega
     case rel => exact ⟨(wrap64 (x3_1 + (rd l0 x8_1))), (wrap64 (x8_1 + 1)), Rs, Rs, H', ⟨by have := HK1.out; omega⟩, Dr⟩
   have c2b0 := decide_eq_false c2
   clear c2
   obtain rfl := Option.some.inj H
   go_wp2
   go_ret
   exact ⟨Rs, Dr⟩

/-! ### spec_DrawAreCoins: function 57 -/
def spec_DrawAreCoins_in.f (k : Nat) (s0_0 : List Int) (s0_1 : Int) (s0_2 : Int) : Option (List Int × Int × Int) := (spec_l1Cur_coins.f k s0_0 s0_1 s0_2).bind fun bt392 => (some (bt392.1, bt392.2.1, bt392.2.2))
def spec_DrawAreCoins.f (k : Nat) (l0 : List Int) : Option (List Int) := (spec_DrawAreCoins_in.f k l0 0 0).bind fun t_ => some (t_.1)
theorem spec_DrawAreCoins.calls (k : Nat) (A0_ : Option Addr) (c0_ : Nat) (s0_0 : List Int) (r1 : List Int) (w0 : World) (hr0_ : Kd.C (Kd.int .u8) w0 A0_ s0_0.length s0_0) (hc0_ : s0_0.length ≤ c0_) (h : spec_DrawAreCoins.f k s0_0 = some (r1)) :
 Calls Try.prog 57 #[.slice A0_ s0_0.length c0_] w0 fun e w' => ∃ v0_ : Value, e = .returned (v0_) ∧ Kd.V (Kd.int .i64) 3 w' w0.heap.size (fun k_ => (w0.heap.size ≤ k_)) v0_ r1 ∧ Below w0.heap.size w0 w' := by
 unfold spec_DrawAreCoins.f at h
 obtain ⟨tt_, h0_, h⟩ := Option.bind_eq_some_iff.1 h
 obtain ⟨y0_, r2, r3⟩ := tt_
 have h := (Option.some.inj h).symm
 subst h
 obtain ⟨s0_1, es1_⟩ : ∃ s_ : Int, s_ = 0 := ⟨_, rfl⟩
 obtain ⟨s0_2, es2_⟩ : ∃ s_ : Int, s_ = 0 := ⟨_, rfl⟩
 have h : spec_DrawAreCoins_in.f k s0_0 s0_1 s0_2 = some (r1, r2, r3) := by subst es1_ es2_; exact h0_
 clear h0_
 obtain ⟨g, hg_⟩ : ∃ g_, g_ = w0.heap.size := ⟨_, rfl⟩
 obtain ⟨w, hw_⟩ : ∃ w_, w_ = w0.alloc (.cells #[.slice A0_ s0_0.length c0_, .int .i64 0, .int .u64 0] 60) := ⟨_, rfl⟩
 have hI : IsS60 w0 w g s0_0 s0_1 s0_2 := by subst hw_; subst hg_; subst es1_; subst es2_; exact ⟨A0_, c0_, blk_new _ _, Nat.le_refl _, hr0_⟩
 have hB : Below w0.heap.size w0 w := by subst hw_; exact below_alloc (Below.refl _ _) _
 have HGW_ := Aside0.mk (And.intro hg_ hw_)
 have hle_ := hB.size
 clear hg_ hw_ es1_ es2_ hr0_ hc0_
 refine (show Calls Try.prog 57 #[.slice A0_ s0_0.length c0_] w0 (fun e w' => ∃ v0_ : Value, e = .returned (v0_) ∧ Kd.V (Kd.int .i64) 3 w' w.heap.size (fun k_ => (w.heap.size ≤ k_)) v0_ r1 ∧ IsS60 w0 w' g s0_0 r2 r3 ∧ Below w0.heap.size w0 w' ∧ KeepBut w w' g none) from ?_).mono (fun e w' hx_ => by obtain ⟨v0_, rfl, hx1_, hx2_, hx3_, hx4_⟩ := hx_; exact ⟨v0_, rfl, Kd.V_mono (Kd.V_lower hx1_ hle_) (fun k_ hk_ => Nat.le_trans hle_ hk_), hx3_⟩)
 clear hle_
 have HI0 := Aside0.mk hI
 have HK := Aside0.mk (KeepBut.refl w g none)
 have HL := Aside0.mk hB.size
 clear hI
 have HW0 := Aside0.mk hB.size
 have HB := Aside0.mk hB
 clear hB
 have H := h; unfold spec_DrawAreCoins.f at H
 clear h
 replace H := Option.bind_eq_some_iff.mp H
 obtain ⟨⟨t392, t395, t396⟩, A20, H⟩ := H
 have A2 := Aside0.mk A20
 clear A20
 simp only [Option.some.injEq, Prod.mk.injEq] at H
 obtain ⟨rfl, rfl, rfl⟩ := H
 go_enter Try.func57, Try.ntmps57
 go_upto_region 2 with (fail)
 (try simp only [Act.put, List.setIfInBounds_toArray, List.set_cons_zero, List.set_cons_succ])
 have hgw_ := HGW_.out
 rw [← hgw_.2, ← hgw_.1]
 clear hgw_
 go_wp2_with (first | (refine Gl 8 #[.pointer (some ⟨g, 0, none⟩)] Try.func89 ?_; (with_reducible refine (spec_l1Cur_coins.calls k g s0_0 s0_1 s0_2 t392 t395 t396 w0 _ ?side1 ?side2 A2.out).mono ?_); (case side1 => repeat (first | (with_reducible first | exact HI0.out | apply IsS60.alloc | apply IsS60.drewN | apply IsS60.drew | apply IsS60.set_1 | apply IsS60.set_2) | exact HI0.out)); (case side2 => repeat (first | (with_reducible first | exact HB.out | apply below_alloc | apply pw_below_drewN | apply below_drew1 | refine below_set ?_ (IsS60.ge HI0.out)) | exact HB.out)); rintro e w3 ⟨v393, rfl, ho0, hi, hb, hk⟩; refine ⟨_, rfl, ?_⟩; have HO394 := Aside0.mk (Kd.V_lower (Kd.V_mono (ok' := fun k_ => (w.heap.size ≤ k_) ∧ k_ ≠ g) ho0 (fun k_ hk_ => ⟨(Nat.le_trans (keep_size (w := w) (g := g) (row := none) (by repeat (first | (with_reducible first | exact HK.out | apply KeepBut.set_ | apply keep_drewN | apply keep_drew | apply keep_alloc) | exact HK.out))) hk_), (IsS60.fresh (by repeat (first | (with_reducible first | exact HI0.out | apply IsS60.alloc | apply IsS60.drewN | apply IsS60.drew | apply IsS60.set_1 | apply IsS60.set_2) | exact HI0.out)) k_ hk_)⟩)) (keep_size (w := w) (g := g) (row := none) (by repeat (first | (with_reducible first | exact HK.out | apply KeepBut.set_ | apply keep_drewN | apply keep_drew | apply keep_alloc) | exact HK.out)))); replace HK := Aside0.mk (KeepBut.trans (by repeat (first | (with_reducible first | exact HK.out | apply KeepBut.set_ | apply keep_drewN | apply keep_drew | apply keep_alloc) | exact HK.out)) hk (.inl rfl)); replace HB := Aside0.mk (hb); replace HI0 := Aside0.mk (hi); clear hb hk hi ho0))
 go_ret
 exact ⟨_, Re, by (with_reducible repeat (first | apply Kd.V_alloc | apply Kd.V_drewN | apply Kd.V_drew)); exact Kd.V_mono HO394.out (fun _ hk => hk.1), by repeat (first | (with_reducible first | exact HI0.out | apply IsS60.alloc | apply IsS60.drewN | apply IsS60.drew | apply IsS60.set_1 | apply IsS60.set_2) | exact HI0.out), by repeat (first | (with_reducible first | exact HB.out | apply below_alloc | apply pw_below_drewN | apply below_drew1 | refine below_set ?_ (IsS60.ge HI0.out)) | exact HB.out), by repeat (first | (with_reducible first | exact HK.out | apply KeepBut.set_ | apply keep_drewN | apply keep_drew | apply keep_alloc) | exact HK.out)⟩

/-! ### spec_DrawGreatestUnpaid: function 14 -/
def spec_DrawGreatestUnpaid.f (k : Nat) (l0 : List Int) : Option (List Int) := (spec_DrawAreCoins.f k l0).bind fun t397 => (some t397)
theorem spec_DrawGreatestUnpaid.calls (k : Nat) (A0 : Option Addr) (c0 : Nat) (l0 : List Int) (r : List Int) (w : World) (hr0 : Kd.C (Kd.int .u8) w A0 l0.length l0) (hc0 : l0.length ≤ c0) (h : spec_DrawGreatestUnpaid.f k l0 = some r) :
 Calls Try.prog 14 #[.slice A0 l0.length c0] w fun e w' => ∃ v0_ : Value, e = .returned (v0_) ∧ Kd.V (Kd.int .i64) 3 w' w.heap.size (fun k_ => (w.heap.size ≤ k_)) v0_ r ∧ Below w.heap.size w w' := by
 have HR0 := Aside0.mk hr0
 have HC0 := Aside0.mk hc0
 clear hr0 hc0
 have HB := Aside0.mk (Below.refl w.heap.size w)
 have H := h; unfold spec_DrawGreatestUnpaid.f at H
 clear h
 replace H := Option.bind_eq_some_iff.mp H
 obtain ⟨t397, A20, H⟩ := H
 have A2 := Aside0.mk A20
 clear A20
 obtain rfl := Option.some.inj H
 go_enter Try.func14, Try.ntmps14
 go_wp2_with (first | (refine Gl 4 #[.slice A0 l0.length c0] Try.func57 ?_; (with_reducible refine (spec_DrawAreCoins.calls k _ _ l0 t397 _ (Cm HR0.out) HC0.out A2.out).mono ?_); rintro e w3 ⟨v398, rfl, ho0, hb⟩; refine ⟨_, rfl, ?_⟩; have HO399 := Aside0.mk (Kd.V_lower (Kd.V_mono (ok' := fun k_ => (w.heap.size ≤ k_)) ho0 (fun k_ hk_ => (Nat.le_trans (below_size Ub) hk_))) (below_size Ub)); replace HB := Aside0.mk (below_step Ub hb); clear hb ho0))
 go_ret
 exact ⟨_, Re, by (with_reducible repeat (first | apply Kd.V_alloc | apply Kd.V_drewN | apply Kd.V_drew)); exact HO399.out, Ub⟩

end Go.Proofs.Ytkbllhlmcfjcdaa.PFnChangeLeft
