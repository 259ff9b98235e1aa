-- MADE FOR THIS CLAIM by wip/xp/xprint.py (with the kit's print; some functions' contracts proved by hand)
import Derived.Test.YtkbllhlmcfjcdaaPFnChangeLeftx0
import Derived.Test.YtkbllhlmcfjcdaaPFnChangeLeftx2
import Derived.Test.YtkbllhlmcfjcdaaPFnChangeLeftx8
set_option maxHeartbeats 8000000
set_option maxRecDepth 100000
namespace Go.Proofs.Ytkbllhlmcfjcdaa.PFnChangeLeft
open Go.RowKit Go.Proofs.YtkbllhlmcfjcdaaW.PrintWords Go.Proofs.YtkbllhlmcfjcdaaW.PrintLast Go.Proofs.YtkbllhlmcfjcdaaW.PrintMore Go.Proofs.Ytkbllhlmcfjcdaa.Xmv
attribute [local go_sem] max2_int min2_int max_two min_two max_three min_three max_four min_four   -- for this text's walks alone
set_option linter.unusedVariables false
set_option linter.unusedSimpArgs false

/-! ### impl_residues: function 58 -/
mutual
def impl_residues.l0 : Nat → List Int → Int → List Int → Int → Int → Option (List Int × Bool)
 | 0, _, _, _, _, _ => none
 | k + 1, x0, x4, x17, x18, x19 => if x19 < x18 then (if 0 ≤ x19 then (if x19 < (x17.length : Int) then ((impl_gcd.f k x4 (rd x17 x19)).bind fun t402 => (impl_residues.l0 k x0 t402 x17 x18 (wrap64 (x19 + 1)))) else (none)) else (none)) else (if x4 = 1 then (if 0 < (x0.length : Int) then (if 0 ≤ (rd x0 0) then (if (rd x0 0 : Int).toNat ≤ 35184372088832 then ((some (List.replicate (rd x0 0 : Int).toNat 0 : List Int)).bind fun y404 => (impl_residues.l1 k x0 y404 (y404.length : Int) 0)) else (none)) else (none)) else (none)) else (some (([] : List Int), false)))
def impl_residues.l1 : Nat → List Int → List Int → Int → Int → Option (List Int × Bool)
 | 0, _, _, _, _ => none
 | k + 1, x0, x7, x34, x35 => if x35 < x34 then (if 0 ≤ x35 then (if x35 < (x7.length : Int) then (impl_residues.l1 k x0 (x7.set (x35 : Int).toNat 1099511627776) x34 (wrap64 (x35 + 1))) else (none)) else (none)) else (if 0 < (x7.length : Int) then (impl_residues.l2 k x0 (x7.set (0 : Int).toNat 0) true) else (none))
def impl_residues.l2 : Nat → List Int → List Int → Bool → Option (List Int × Bool)
 | 0, _, _, _ => none
 | k + 1, x0, x7, x9 => if x9 = true then (impl_residues.l3 k x0 x7 false (x7.length : Int) 0) else (some (x7, true))
def impl_residues.l3 : Nat → List Int → List Int → Bool → Int → Int → Option (List Int × Bool)
 | 0, _, _, _, _, _ => none
 | k + 1, x0, x7, x9, x46, x47 => if x47 < x46 then (impl_residues.l4 k x0 x7 x9 x47 x46 x47 x0 (x0.length : Int) 0) else (impl_residues.l2 k x0 x7 x9)
def impl_residues.l4 : Nat → List Int → List Int → Bool → Int → Int → Int → List Int → Int → Int → Option (List Int × Bool)
 | 0, _, _, _, _, _, _, _, _, _ => none
 | k + 1, x0, x7, x9, x10, x46, x47, x50, x51, x52 => if x52 < x51 then (if 0 ≤ x52 then (if x52 < (x50.length : Int) then (if 0 ≤ x10 then (if x10 < (x7.length : Int) then (if 0 < (x0.length : Int) then (if (rd x0 0) = 0 then (none) else (if 0 ≤ (Int.tmod (wrap64 ((rd x7 x10) + (rd x50 x52))) (rd x0 0)) then (if (Int.tmod (wrap64 ((rd x7 x10) + (rd x50 x52))) (rd x0 0)) < (x7.length : Int) then (if (wrap64 ((rd x7 x10) + (rd x50 x52))) < (rd x7 (Int.tmod (wrap64 ((rd x7 x10) + (rd x50 x52))) (rd x0 0))) then (impl_residues.l4 k x0 (x7.set ((Int.tmod (wrap64 ((rd x7 x10) + (rd x50 x52))) (rd x0 0)) : Int).toNat (wrap64 ((rd x7 x10) + (rd x50 x52)))) true x10 x46 x47 x50 x51 (wrap64 (x52 + 1))) else (impl_residues.l4 k x0 x7 x9 x10 x46 x47 x50 x51 (wrap64 (x52 + 1)))) else (none)) else (none))) else (none)) else (none)) else (none)) else (none)) else (none)) else (impl_residues.l3 k x0 x7 x9 x46 (wrap64 (x47 + 1)))
end
def impl_residues.f (k : Nat) (l0 : List Int) : Option (List Int × Bool) := (impl_AreCoins.f k l0).bind fun t400 => (if t400 = true then (impl_residues.l0 k l0 0 l0 (l0.length : Int) 0) else (some (([] : List Int), false)))
theorem impl_residues.calls (k : Nat) (A0 : Option Addr) (c0 : Nat) (l0 : List Int) (r1 : List Int) (r2 : Bool) (w : World) (hr0 : Kd.C (Kd.int .i64) w A0 l0.length l0) (hc0 : l0.length ≤ c0) (h : impl_residues.f k l0 = some (r1, r2)) :
 Calls Try.prog 58 #[.slice A0 l0.length c0] w fun e w' => ∃ v0_ : Value, e = .returned (.tuple #[v0_, .bool r2]) ∧ Kd.R (Kd.int .i64) 3 w' w.heap.size (fun _ => True) v0_ r1 ∧ Below w.heap.size w w' := by
 have HR0 := Aside0.mk hr0
 have HC0 := Aside0.mk hc0
 clear hr0 hc0
 have HB := Aside0.mk (Below.refl w.heap.size w)
 have H := h; unfold impl_residues.f at H
 clear h
 replace H := Option.bind_eq_some_iff.mp H
 obtain ⟨t400, A20, H⟩ := H
 have A2 := Aside0.mk A20
 clear A20
 replace H := Iw H; rcases H with ⟨rfl, H⟩ | ⟨rfl, H⟩
 · have H' := Aside0.mk H
   clear H
   go_enter Try.func58, Try.ntmps58
   go_wp2_with (first | (refine Gl 15 #[.slice A0 l0.length c0] Try.func21 ?_; (with_reducible refine (impl_AreCoins.calls k _ _ l0 true _ (Cm HR0.out) HC0.out A2.out).mono ?_); rintro e w4 ⟨rfl, hb⟩; refine ⟨_, rfl, ?_⟩; replace HB := Aside0.mk (below_step Ub hb); clear hb))
   go_loopg [4, 19] k (fun kq v4 v19 w' => ∃ (x4_1 : Int) (x19_1 : Int), v4 = .int .i64 x4_1 ∧ v19 = .int .i64 x19_1 ∧ Aside0 (impl_residues.l0 kq l0 x4_1 l0 (l0.length : Int) x19_1 = some (r1, r2)) ∧ Aside0 (kq ≤ k) ∧ Aside0 (Below w.heap.size w w'))
   case atStart => exact ⟨(0), (0), Rs, Rs, H', ⟨Nat.le_refl _⟩, ⟨Ub⟩⟩
   case round =>
    clear H'
    obtain ⟨x4_1, x19_1, rfl, rfl, HA, HK1, HB⟩ := hrel
    cases gk with
    | zero => exact absurd HA.out (by simp [impl_residues.l0])
    | succ k1 =>
     have H := HA.out
     clear HA
     simp only [impl_residues.l0] at H
     replace H := Ic H; rcases H with ⟨c5, H⟩ | ⟨c5, H⟩
     · have c5b0 := decide_eq_true c5
       clear c5
       replace H := Ip H; obtain ⟨c6, H⟩ := H
       have c6b0 := decide_eq_true c6
       clear c6
       replace H := Ip H; obtain ⟨c7, H⟩ := H
       have c7b0 := decide_eq_true c7
       clear c7
       replace H := Option.bind_eq_some_iff.mp H
       obtain ⟨t402, A80, H⟩ := H
       have A8 := Aside0.mk A80
       clear A80
       have H' := Aside0.mk H
       clear H
       obtain ⟨p401, q401, ad401, e401, hx401_0⟩ := Ai HR0.out x19_1
       cases e401
       replace hx401_0 := (HB.out.cell (World.block_lt_of_cell? w _ hx401_0)).trans hx401_0
       go_wp2_with (first | (refine Gl 25 #[.int .i64 x4_1, .int .i64 (rd l0 x19_1)] Try.func96 ?_; (with_reducible refine (impl_gcd.calls k1 x4_1 (rd l0 x19_1) t402 _ A8.out).mono ?_); rintro e w' ⟨rfl, ⟨nd, rfl⟩⟩; refine ⟨_, rfl, ?_⟩))
       go_roundg k1
       case measure => have := HK1.out; omega
       case rel => exact ⟨(t402), (wrap64 (x19_1 + 1)), Rs, Rs, H', ⟨by have := HK1.out; omega⟩, ⟨Ub⟩⟩
     have c5b0 := decide_eq_false c5
     clear c5
     replace H := Ic H; rcases H with ⟨c9, H⟩ | ⟨c9, H⟩
     · have c9b0 : (x4_1 == 1) = true := beq_iff_eq.mpr c9
       have c9b1 := bne_eq_false_iff_eq.mpr c9
       clear c9
       replace H := Ip H; obtain ⟨c10, H⟩ := H
       have c10b0 := decide_eq_true c10
       have c10b1 : decide (0 < l0.length) = true := decide_eq_true (by omega)
       clear c10
       replace H := Ip H; obtain ⟨c11, H⟩ := H
       have c11b0 := eq_true c11
       have c11b1 := decide_eq_true c11
       clear c11
       replace H := Ip H; obtain ⟨c12, H⟩ := H
       have c12b0 := eq_true c12
       have c12b1 := decide_eq_true c12
       clear c12
       obtain ⟨y404, hy404⟩ : ∃ y_ : List Int, y_ = (List.replicate (rd l0 0 : Int).toNat 0) := ⟨_, rfl⟩
       replace H : (impl_residues.l1 k1 l0 y404 (y404.length : Int) 0) = some (r1, r2) := by first | (rw [hy404]; with_reducible exact H) | (have H2_ := (Option.bind_some _ _).symm.trans H; rw [hy404]; with_reducible exact H2_) | (have H2_ := (Option.bind_some _ _).symm.trans H; with_reducible exact H2_) | with_reducible exact H | (rw [hy404]; exact H) | exact H
       have Ny404 := Aside0.mk hy404
       clear hy404
       have H' := Aside0.mk H
       clear H
       have p403 : 0 ≤ (0 : Int) := (by omega)
       have q403 : 0 < (l0.length : Int) := Oa
       obtain ⟨ad403, e403, hx403_0⟩ := Kd.at_int HR0.out 0 p403 q403
       cases e403
       have qi403 : (0 < l0.length) = True := eq_true (by omega)
       (try rw [show ((0 : Int)).toNat = 0 from rfl] at hx403_0)
       (try rw [Addr.add_zero'] at hx403_0)
       replace hx403_0 := (HB.out.cell (World.block_lt_of_cell? w _ hx403_0)).trans hx403_0
       replace p403 := eq_true p403
       replace q403 := eq_true q403
       go_wp2_with (first | ((with_reducible refine gate_dst (N := 32) rfl ?_); refine Kd.R_make (Kd.int .i64) _ 3 rfl (N := 32) rfl 24 _ _ rfl (rd l0 0) rfl rfl Try.underlying24 (.int .i64 0) 8 info3 rfl (by decide) (by omega) 0 (ok := fun _ => True) (okp := fun _ => True) rfl (fun _ hk => hk) trivial (Oa) (Nat.le_trans (Nat.mul_le_mul_right _ (Oa : (rd l0 0).toNat ≤ 35184372088832)) (by omega)) (Below.refl _ _) (Nat.le_refl _) ?_; intro v405 w13 ho14 hb hg_ hnew_; clear hg_ hnew_; (first | rw [← Ny404.out] at ho14 | (simp only [Int.reduceToNat] at ho14; rw [← Ny404.out] at ho14)); have HO406 := Aside0.mk (Kd.R_lower ho14 (below_size Ub)); replace HB := Aside0.mk (below_step Ub hb); clear hb ho14; obtain ⟨Ao15, co15, eo15⟩ := Kd.R_slice HO406.out; subst eo15))
       go_loopg [35] k1 (fun kq v35 w' => ∃ (x7_2 : List Int) (x35_2 : Int), v35 = .int .i64 x35_2 ∧ Aside0 (impl_residues.l1 kq l0 x7_2 (y404.length : Int) x35_2 = some (r1, r2)) ∧ Aside0 (kq ≤ k1) ∧ Aside0 (Kd.R (Kd.int .i64) 3 w' w.heap.size (fun _ => True) (.slice Ao15 y404.length co15) x7_2) ∧ Aside0 (Below w.heap.size w w'))
       case atStart => exact ⟨(y404), (0), Rs, H', ⟨Nat.le_refl _⟩, ⟨Rm HO406.out⟩, ⟨Ub⟩⟩
       case round =>
        clear H'
        try clear c5
        try clear c5b0
        try clear c6
        try clear c6b0
        try clear c7
        try clear c7b0
        try clear c9
        try clear c9b0
        try clear c9b1
        try clear c10
        try clear c10b0
        try clear c10b1
        try clear c11
        try clear c11b0
        try clear c11b1
        try clear c12
        try clear c12b0
        try clear c12b1
        try clear hx401_0
        try clear hx403_0
        try clear p401
        try clear p403
        try clear q401
        try clear q403
        obtain ⟨x7_2, x35_2, rfl, HA, HK2, HO_7, HB⟩ := hrel
        have hl7_2 := (Kd.R_reads' HO_7.out).1
        rw [hl7_2] at HO_7
        (try simp only [hl7_2])
        cases gk with
        | zero => exact absurd HA.out (by simp [impl_residues.l1])
        | succ k2 =>
         have H := HA.out
         clear HA
         simp only [impl_residues.l1] at H
         replace H := Ic H; rcases H with ⟨c16, H⟩ | ⟨c16, H⟩
         · have c16b0 := decide_eq_true c16
           (try (have c16b9 := c16b0; rw [hl7_2] at c16b9))
           clear c16
           replace H := Ip H; obtain ⟨c17, H⟩ := H
           have c17b0 := decide_eq_true c17
           (try (have c17b9 := c17b0; rw [hl7_2] at c17b9))
           clear c17
           replace H := Ip H; obtain ⟨c18, H⟩ := H
           have c18b0 := decide_eq_true c18
           (try (have c18b9 := c18b0; rw [hl7_2] at c18b9))
           clear c18
           obtain ⟨y407, hy407⟩ : ∃ y_ : List Int, y_ = (x7_2.set (x35_2 : Int).toNat 1099511627776) := ⟨_, rfl⟩
           replace H : (impl_residues.l1 k2 l0 y407 (y404.length : Int) (wrap64 (x35_2 + 1))) = some (r1, r2) := by first | (rw [hy407]; with_reducible exact H) | (have H2_ := (Option.bind_some _ _).symm.trans H; rw [hy407]; with_reducible exact H2_) | (have H2_ := (Option.bind_some _ _).symm.trans H; with_reducible exact H2_) | with_reducible exact H | (rw [hy407]; exact H) | exact H
           have Ny407 := Aside0.mk hy407
           clear hy407
           have H' := Aside0.mk H
           clear H
           have p19 : 0 ≤ (x35_2 : Int) := Oa
           have q19 : (x35_2 : Int) < ((x7_2.length : Int) : Int) := Oa
           obtain ⟨go19, co19, eo19, gb19, gl19, cl19, HG19⟩ := Kd.R_form HO_7.out (by omega)
           (first | cases eo19 | (injection eo19 with ea_ en_ ec_; (first | subst ea_ | (injection ea_ with ea_; subst ea_)); subst ec_; clear en_))
           have GB19 := Aside0.mk gb19
           have GG19 := Aside0.mk HG19
           clear gb19 gl19 HG19
           obtain ⟨hx19_0, hf19_0⟩ := Kd.R_celln 0 HO_7.out (x35_2 : Int) p19 q19
           replace p19 := eq_true p19
           replace q19 := eq_true q19
           have HP20 := Kd.R_putg HO_7.out (x35_2 : Int) 1099511627776
           go_wp2_with (first | ((with_reducible refine gate_store (t := 3) (p := 40) rfl ?_); refine store_event (t := 3) (p := 40) (v := ?vo_w21) (w1 := (wr.setCell ⟨go19, (x35_2 : Int).toNat, none⟩ (.int .i64 1099511627776))) ?hg ?ho ?hn ?hr ?_; (case ho => rfl); (case hg => rfl); (case hn => rfl); (case hr => first | (go_simp; done) | (go_simp; rfl)); intro w21 hw; have hg : wr.grownBy w21 (some go19) := (by rw [hw]; exact HP20.2); have hp_ : Kd.R (Kd.int .i64) 3 w21 w.heap.size (fun _ => True) (.slice (some ⟨go19, 0, none⟩) x7_2.length co15) y407 := (by rw [hw, Ny407.out]; exact HP20.1); clear HP20; replace HO_7 := Aside0.mk (hp_); replace HB := Aside0.mk ((by rw [hw]; exact below_set (HB.out) GB19.out : Below w.heap.size w w21)); clear hg hw hp_))
           (try simp only [← hl7_2])
           go_roundg k2
           case measure => have := HK1.out; have := HK2.out; omega
           case rel => exact ⟨(y407), (wrap64 (x35_2 + 1)), Rs, H', ⟨by have := HK1.out; have := HK2.out; omega⟩, ⟨by (try simp only [hl7_2]); (with_reducible repeat (first | apply Kd.R_alloc | apply Kd.R_drewN | apply Kd.R_drew)); exact HO_7.out⟩, ⟨Ub⟩⟩
         have c16b0 := decide_eq_false c16
         (try rw [hl7_2] at c16b0)
         clear c16
         replace H := Ip H; obtain ⟨c22, H⟩ := H
         have c22b0 := decide_eq_true c22
         (try (have c22b9 := c22b0; rw [hl7_2] at c22b9))
         have c22b1 : decide (0 < x7_2.length) = true := decide_eq_true (by omega)
         clear c22
         obtain ⟨y408, hy408⟩ : ∃ y_ : List Int, y_ = (x7_2.set (0 : Int).toNat 0) := ⟨_, rfl⟩
         replace H : (impl_residues.l2 k2 l0 y408 true) = some (r1, r2) := by first | (rw [hy408]; with_reducible exact H) | (have H2_ := (Option.bind_some _ _).symm.trans H; rw [hy408]; with_reducible exact H2_) | (have H2_ := (Option.bind_some _ _).symm.trans H; with_reducible exact H2_) | with_reducible exact H | (rw [hy408]; exact H) | exact H
         have Ny408 := Aside0.mk hy408
         clear hy408
         have H' := Aside0.mk H
         clear H
         have p23 : 0 ≤ (0 : Int) := (by omega)
         have q23 : (0 : Int) < ((x7_2.length : Int) : Int) := Oa
         have qi23 : (0 < x7_2.length) = True := eq_true (by omega)
         obtain ⟨go23, co23, eo23, gb23, gl23, cl23, HG23⟩ := Kd.R_form HO_7.out (by omega)
         (first | cases eo23 | (injection eo23 with ea_ en_ ec_; (first | subst ea_ | (injection ea_ with ea_; subst ea_)); subst ec_; clear en_))
         have GB23 := Aside0.mk gb23
         have GG23 := Aside0.mk HG23
         clear gb23 gl23 HG23
         obtain ⟨hx23_0, hf23_0⟩ := Kd.R_celln 0 HO_7.out (0 : Int) p23 q23
         (try rw [show ((0 : Int)).toNat = 0 from rfl] at hx23_0)
         (try simp only [Nat.reduceMul, Nat.zero_mul, Nat.zero_add, Nat.reduceAdd] at hx23_0)
         (try rw [show ((0 : Int)).toNat = 0 from rfl] at hf23_0)
         (try simp only [Nat.reduceMul, Nat.zero_mul, Nat.zero_add, Nat.reduceAdd] at hf23_0)
         replace p23 := eq_true p23
         replace q23 := eq_true q23
         have HP24 := Kd.R_putg HO_7.out (0 : Int) 0
         go_wp2_with (first | ((with_reducible refine gate_store (t := 3) (p := 43) rfl ?_); refine store_event (t := 3) (p := 43) (v := ?vo_w25) (w1 := (wr.setCell ⟨go23, (0 : Int).toNat, none⟩ (.int .i64 0))) ?hg ?ho ?hn ?hr ?_; (case ho => rfl); (case hg => rfl); (case hn => rfl); (case hr => first | (go_simp; done) | (go_simp; rfl)); intro w25 hw; have hg : wr.grownBy w25 (some go23) := (by rw [hw]; exact HP24.2); have hp_ : Kd.R (Kd.int .i64) 3 w25 w.heap.size (fun _ => True) (.slice (some ⟨go23, 0, none⟩) x7_2.length co15) y408 := (by rw [hw, Ny408.out]; exact HP24.1); clear HP24; replace HO_7 := Aside0.mk (hp_); replace HB := Aside0.mk ((by rw [hw]; exact below_set (HB.out) GB23.out : Below w.heap.size w w25)); clear hg hw hp_))
         go_loopg [9] k2 (fun kq v9 w' => ∃ (x7_3 : List Int) (x9_3 : Bool), v9 = .bool x9_3 ∧ Aside0 (impl_residues.l2 kq l0 x7_3 x9_3 = some (r1, r2)) ∧ Aside0 (kq ≤ k2) ∧ Aside0 (Kd.R (Kd.int .i64) 3 w' w.heap.size (fun _ => True) (.slice (some ⟨go23, 0, none⟩) x7_2.length co15) x7_3) ∧ Aside0 (Below w.heap.size w w'))
         case atStart => exact ⟨(y408), (true), Rs, H', ⟨Nat.le_refl _⟩, ⟨by (try simp only [hl7_2]); (with_reducible repeat (first | apply Kd.R_alloc | apply Kd.R_drewN | apply Kd.R_drew)); exact HO_7.out⟩, ⟨Ub⟩⟩
         case round =>
          clear H'
          try clear c5
          try clear c5b0
          try clear c6
          try clear c6b0
          try clear c7
          try clear c7b0
          try clear c9
          try clear c9b0
          try clear c9b1
          try clear c10
          try clear c10b0
          try clear c10b1
          try clear c11
          try clear c11b0
          try clear c11b1
          try clear c12
          try clear c12b0
          try clear c12b1
          try clear c16
          try clear c16b0
          try clear c17
          try clear c17b0
          try clear c18
          try clear c18b0
          try clear p19
          try clear q19
          try clear c22
          try clear c22b0
          try clear c22b1
          try clear p23
          try clear q23
          try clear qi23
          try clear hx19_0
          try clear hx23_0
          try clear hx401_0
          try clear hx403_0
          try clear p19
          try clear p23
          try clear p401
          try clear p403
          try clear q19
          try clear q23
          try clear q401
          try clear q403
          obtain ⟨x7_3, x9_3, rfl, HA, HK3, HO_7, HB⟩ := hrel
          have hl7_3 := (Kd.R_reads' HO_7.out).1
          rw [hl7_3] at HO_7
          (try simp only [hl7_3])
          cases gk with
          | zero => exact absurd HA.out (by simp [impl_residues.l2])
          | succ k3 =>
           have H := HA.out
           clear HA
           simp only [impl_residues.l2] at H
           by_cases c26 : x9_3 = true
           · subst c26
             have H1 : (impl_residues.l3 k3 l0 x7_3 false (x7_3.length : Int) 0) = some (r1, r2) := by rw [if_pos rfl] at H; exact H
             clear H
             have H := H1
             clear H1
             have H' := Aside0.mk H
             clear H
             go_wp2
             go_loopg [9, 47] k3 (fun kq v9 v47 w' => ∃ (x7_4 : List Int) (x9_4 : Bool) (x47_4 : Int), v9 = .bool x9_4 ∧ v47 = .int .i64 x47_4 ∧ Aside0 (impl_residues.l3 kq l0 x7_4 x9_4 (x7_3.length : Int) x47_4 = some (r1, r2)) ∧ Aside0 (kq ≤ k3) ∧ Aside0 (Kd.R (Kd.int .i64) 3 w' w.heap.size (fun _ => True) (.slice (some ⟨go23, 0, none⟩) x7_3.length co15) x7_4) ∧ Aside0 (Below w.heap.size w w'))
             case atStart => exact ⟨(x7_3), (false), (0), Rs, Rs, H', ⟨Nat.le_refl _⟩, ⟨by (try simp only [hl7_2]); (try simp only [hl7_3]); (with_reducible repeat (first | apply Kd.R_alloc | apply Kd.R_drewN | apply Kd.R_drew)); exact HO_7.out⟩, ⟨Ub⟩⟩
             case round =>
              clear H'
              try clear c5
              try clear c5b0
              try clear c6
              try clear c6b0
              try clear c7
              try clear c7b0
              try clear c9
              try clear c9b0
              try clear c9b1
              try clear c10
              try clear c10b0
              try clear c10b1
              try clear c11
              try clear c11b0
              try clear c11b1
              try clear c12
              try clear c12b0
              try clear c12b1
              try clear c16
              try clear c16b0
              try clear c17
              try clear c17b0
              try clear c18
              try clear c18b0
              try clear p19
              try clear q19
              try clear c22
              try clear c22b0
              try clear c22b1
              try clear p23
              try clear q23
              try clear qi23
              try clear c26
              try clear hx19_0
              try clear hx23_0
              try clear hx401_0
              try clear hx403_0
              try clear p19
              try clear p23
              try clear p401
              try clear p403
              try clear q19
              try clear q23
              try clear q401
              try clear q403
              obtain ⟨x7_4, x9_4, x47_4, rfl, rfl, HA, HK4, HO_7, HB⟩ := hrel
              have hl7_4 := (Kd.R_reads' HO_7.out).1
              rw [hl7_4] at HO_7
              (try simp only [hl7_4])
              cases gk with
              | zero => exact absurd HA.out (by simp [impl_residues.l3])
              | succ k4 =>
               have H := HA.out
               clear HA
               simp only [impl_residues.l3] at H
               replace H := Ic H; rcases H with ⟨c27, H⟩ | ⟨c27, H⟩
               · have c27b0 := decide_eq_true c27
                 (try (have c27b9 := c27b0; rw [hl7_2] at c27b9)); (try (have c27b9 := c27b0; rw [hl7_3] at c27b9)); (try (have c27b9 := c27b0; rw [hl7_4] at c27b9))
                 clear c27
                 have H' := Aside0.mk H
                 clear H
                 go_wp2
                 go_loopg [9, 52] k4 (fun kq v9 v52 w' => ∃ (x7_5 : List Int) (x9_5 : Bool) (x52_5 : Int), v9 = .bool x9_5 ∧ v52 = .int .i64 x52_5 ∧ Aside0 (impl_residues.l4 kq l0 x7_5 x9_5 x47_4 (x7_3.length : Int) x47_4 l0 (l0.length : Int) x52_5 = some (r1, r2)) ∧ Aside0 (kq ≤ k4) ∧ Aside0 (Kd.R (Kd.int .i64) 3 w' w.heap.size (fun _ => True) (.slice (some ⟨go23, 0, none⟩) x7_4.length co15) x7_5) ∧ Aside0 (Below w.heap.size w w'))
                 case atStart => exact ⟨(x7_4), (x9_4), (0), Rs, Rs, H', ⟨Nat.le_refl _⟩, ⟨by (try simp only [hl7_2]); (try simp only [hl7_3]); (try simp only [hl7_4]); (with_reducible repeat (first | apply Kd.R_alloc | apply Kd.R_drewN | apply Kd.R_drew)); exact HO_7.out⟩, ⟨Ub⟩⟩
                 case round =>
                  clear H'
                  try clear c5
                  try clear c5b0
                  try clear c6
                  try clear c6b0
                  try clear c7
                  try clear c7b0
                  try clear c9
                  try clear c9b0
                  try clear c9b1
                  try clear c10
                  try clear c10b0
                  try clear c10b1
                  try clear c11
                  try clear c11b0
                  try clear c11b1
                  try clear c12
                  try clear c12b0
                  try clear c12b1
                  try clear c16
                  try clear c16b0
                  try clear c17
                  try clear c17b0
                  try clear c18
                  try clear c18b0
                  try clear p19
                  try clear q19
                  try clear c22
                  try clear c22b0
                  try clear c22b1
                  try clear p23
                  try clear q23
                  try clear qi23
                  try clear c26
                  try clear c27
                  try clear c27b0
                  try clear hx19_0
                  try clear hx23_0
                  try clear hx401_0
                  try clear hx403_0
                  try clear p19
                  try clear p23
                  try clear p401
                  try clear p403
                  try clear q19
                  try clear q23
                  try clear q401
                  try clear q403
                  obtain ⟨x7_5, x9_5, x52_5, rfl, rfl, HA, HK5, HO_7, HB⟩ := hrel
                  have hl7_5 := (Kd.R_reads' HO_7.out).1
                  rw [hl7_5] at HO_7
                  (try simp only [hl7_5])
                  cases gk with
                  | zero => exact absurd HA.out (by simp [impl_residues.l4])
                  | succ k5 =>
                   have H := HA.out
                   clear HA
                   simp only [impl_residues.l4] at H
                   replace H := Ic H; rcases H with ⟨c28, H⟩ | ⟨c28, H⟩
                   · have c28b0 := decide_eq_true c28
                     (try (have c28b9 := c28b0; rw [hl7_2] at c28b9)); (try (have c28b9 := c28b0; rw [hl7_3] at c28b9)); (try (have c28b9 := c28b0; rw [hl7_4] at c28b9)); (try (have c28b9 := c28b0; rw [hl7_5] at c28b9))
                     clear c28
                     replace H := Ip H; obtain ⟨c29, H⟩ := H
                     have c29b0 := decide_eq_true c29
                     (try (have c29b9 := c29b0; rw [hl7_2] at c29b9)); (try (have c29b9 := c29b0; rw [hl7_3] at c29b9)); (try (have c29b9 := c29b0; rw [hl7_4] at c29b9)); (try (have c29b9 := c29b0; rw [hl7_5] at c29b9))
                     clear c29
                     replace H := Ip H; obtain ⟨c30, H⟩ := H
                     have c30b0 := decide_eq_true c30
                     (try (have c30b9 := c30b0; rw [hl7_2] at c30b9)); (try (have c30b9 := c30b0; rw [hl7_3] at c30b9)); (try (have c30b9 := c30b0; rw [hl7_4] at c30b9)); (try (have c30b9 := c30b0; rw [hl7_5] at c30b9))
                     clear c30
                     replace H := Ip H; obtain ⟨c31, H⟩ := H
                     have c31b0 := decide_eq_true c31
                     (try (have c31b9 := c31b0; rw [hl7_2] at c31b9)); (try (have c31b9 := c31b0; rw [hl7_3] at c31b9)); (try (have c31b9 := c31b0; rw [hl7_4] at c31b9)); (try (have c31b9 := c31b0; rw [hl7_5] at c31b9))
                     clear c31
                     replace H := Ip H; obtain ⟨c32, H⟩ := H
                     have c32b0 := decide_eq_true c32
                     (try (have c32b9 := c32b0; rw [hl7_2] at c32b9)); (try (have c32b9 := c32b0; rw [hl7_3] at c32b9)); (try (have c32b9 := c32b0; rw [hl7_4] at c32b9)); (try (have c32b9 := c32b0; rw [hl7_5] at c32b9))
                     clear c32
                     replace H := Ip H; obtain ⟨c33, H⟩ := H
                     have c33b0 := decide_eq_true c33
                     (try (have c33b9 := c33b0; rw [hl7_2] at c33b9)); (try (have c33b9 := c33b0; rw [hl7_3] at c33b9)); (try (have c33b9 := c33b0; rw [hl7_4] at c33b9)); (try (have c33b9 := c33b0; rw [hl7_5] at c33b9))
                     have c33b1 : decide (0 < l0.length) = true := decide_eq_true (by omega)
                     clear c33
                     replace H := Ic H; rcases H with ⟨c34, H⟩ | ⟨c34, H⟩
                     · exact absurd H (by simp)
                     have c34b0 : ((rd l0 0) == 0) = false := beq_eq_false_iff_ne.mpr c34
                     have c34b1 := bne_iff_ne.mpr c34
                     obtain ⟨ji35, hji35⟩ : ∃ j_ : Int, (Int.tmod (wrap64 ((rd x7_5 x47_4) + (rd l0 x52_5))) (rd l0 0)) = j_ := ⟨_, rfl⟩
                     replace H : (if 0 ≤ (ji35) then (if (ji35) < (x7_5.length : Int) then (if (wrap64 ((rd x7_5 x47_4) + (rd l0 x52_5))) < (rd x7_5 (ji35)) then (impl_residues.l4 k5 l0 (x7_5.set ((ji35) : Int).toNat (wrap64 ((rd x7_5 x47_4) + (rd l0 x52_5)))) true x47_4 (x7_3.length : Int) x47_4 l0 (l0.length : Int) (wrap64 (x52_5 + 1))) else (impl_residues.l4 k5 l0 x7_5 x9_5 x47_4 (x7_3.length : Int) x47_4 l0 (l0.length : Int) (wrap64 (x52_5 + 1)))) else (none)) else (none)) = some (r1, r2) := by first | (rw [hji35] at H; exact H) | (simp only [hji35] at H ⊢; exact H)
                     replace H := Ip H; obtain ⟨c36, H⟩ := H
                     have c36b0 := decide_eq_true c36
                     (try (have c36b9 := c36b0; rw [hl7_2] at c36b9)); (try (have c36b9 := c36b0; rw [hl7_3] at c36b9)); (try (have c36b9 := c36b0; rw [hl7_4] at c36b9)); (try (have c36b9 := c36b0; rw [hl7_5] at c36b9))
                     clear c36
                     replace H := Ip H; obtain ⟨c37, H⟩ := H
                     have c37b0 := decide_eq_true c37
                     (try (have c37b9 := c37b0; rw [hl7_2] at c37b9)); (try (have c37b9 := c37b0; rw [hl7_3] at c37b9)); (try (have c37b9 := c37b0; rw [hl7_4] at c37b9)); (try (have c37b9 := c37b0; rw [hl7_5] at c37b9))
                     clear c37
                     replace H := Ic H; rcases H with ⟨c38, H⟩ | ⟨c38, H⟩
                     · have c38b0 := decide_eq_true c38
                       (try (have c38b9 := c38b0; rw [hl7_2] at c38b9)); (try (have c38b9 := c38b0; rw [hl7_3] at c38b9)); (try (have c38b9 := c38b0; rw [hl7_4] at c38b9)); (try (have c38b9 := c38b0; rw [hl7_5] at c38b9))
                       clear c38
                       obtain ⟨y414, hy414⟩ : ∃ y_ : List Int, y_ = (x7_5.set ((ji35) : Int).toNat (wrap64 ((rd x7_5 x47_4) + (rd l0 x52_5)))) := ⟨_, rfl⟩
                       replace H : (impl_residues.l4 k5 l0 y414 true x47_4 (x7_3.length : Int) x47_4 l0 (l0.length : Int) (wrap64 (x52_5 + 1))) = some (r1, r2) := by first | (rw [hy414]; with_reducible exact H) | (have H2_ := (Option.bind_some _ _).symm.trans H; rw [hy414]; with_reducible exact H2_) | (have H2_ := (Option.bind_some _ _).symm.trans H; with_reducible exact H2_) | with_reducible exact H | (rw [hy414]; exact H) | exact H
                       have Ny414 := Aside0.mk hy414
                       clear hy414
                       have H' := Aside0.mk H
                       clear H
                       have p409 : 0 ≤ (x52_5 : Int) := Oa
                       have q409 : x52_5 < (l0.length : Int) := Oa
                       obtain ⟨ad409, e409, hx409_0⟩ := Kd.at_int HR0.out x52_5 p409 q409
                       obtain rfl : ad403 = ad409 := (by injection e409)
                       replace hx409_0 := (HB.out.cell (World.block_lt_of_cell? w _ hx409_0)).trans hx409_0
                       replace p409 := eq_true p409
                       replace q409 := eq_true q409
                       have p410 : 0 ≤ (x47_4 : Int) := Oa
                       have q410 : x47_4 < (x7_5.length : Int) := Oa
                       obtain ⟨ad410, e410, hx410_0⟩ := Kd.at_int (Kd.R_reads' HO_7.out).2.2 x47_4 p410 q410
                       obtain rfl : (⟨go23, 0, none⟩ : Addr) = ad410 := (by injection e410)
                       (first | simp only [add_plain] at hx410_0 | simp only [add_at] at hx410_0 | simp only [Addr.add, Nat.zero_add] at hx410_0 | skip)
                       replace p410 := eq_true p410
                       replace q410 := eq_true q410
                       have p411 : 0 ≤ (0 : Int) := (by omega)
                       have q411 : 0 < (l0.length : Int) := Oa
                       obtain ⟨ad411, e411, hx411_0⟩ := Kd.at_int HR0.out 0 p411 q411
                       obtain rfl : ad403 = ad411 := (by injection e411)
                       have qi411 : (0 < l0.length) = True := eq_true (by omega)
                       (try rw [show ((0 : Int)).toNat = 0 from rfl] at hx411_0)
                       (try rw [Addr.add_zero'] at hx411_0)
                       replace hx411_0 := (HB.out.cell (World.block_lt_of_cell? w _ hx411_0)).trans hx411_0
                       replace p411 := eq_true p411
                       replace q411 := eq_true q411
                       have p412 : 0 ≤ ((ji35) : Int) := Oa
                       have q412 : (ji35) < (x7_5.length : Int) := Oa
                       obtain ⟨ad412, e412, hx412_0⟩ := Kd.at_int (Kd.R_reads' HO_7.out).2.2 (ji35) p412 q412
                       obtain rfl : (⟨go23, 0, none⟩ : Addr) = ad412 := (by injection e412)
                       (first | simp only [add_plain] at hx412_0 | simp only [add_at] at hx412_0 | simp only [Addr.add, Nat.zero_add] at hx412_0 | skip)
                       replace p412 := eq_true p412
                       replace q412 := eq_true q412
                       have p413 : 0 ≤ (0 : Int) := (by omega)
                       have q413 : 0 < (l0.length : Int) := Oa
                       obtain ⟨ad413, e413, hx413_0⟩ := Kd.at_int HR0.out 0 p413 q413
                       obtain rfl : ad403 = ad413 := (by injection e413)
                       have qi413 : (0 < l0.length) = True := eq_true (by omega)
                       (try rw [show ((0 : Int)).toNat = 0 from rfl] at hx413_0)
                       (try rw [Addr.add_zero'] at hx413_0)
                       replace hx413_0 := (HB.out.cell (World.block_lt_of_cell? w _ hx413_0)).trans hx413_0
                       replace p413 := eq_true p413
                       replace q413 := eq_true q413
                       have p39 : 0 ≤ ((ji35) : Int) := Oa
                       have q39 : ((ji35) : Int) < ((x7_5.length : Int) : Int) := Oa
                       obtain ⟨hx39_0, hf39_0⟩ := Kd.R_celln 0 HO_7.out ((ji35) : Int) p39 q39
                       replace p39 := eq_true p39
                       replace q39 := eq_true q39
                       have HP40 := Kd.R_putg HO_7.out ((ji35) : Int) (wrap64 ((rd x7_5 x47_4) + (rd l0 x52_5)))
                       go_wp2_with (first | ((with_reducible refine gate_store (t := 3) (p := 79) rfl ?_); refine store_event (t := 3) (p := 79) (v := ?vo_w41) (w1 := (wr.setCell ⟨go23, ((ji35) : Int).toNat, none⟩ (.int .i64 (wrap64 ((rd x7_5 x47_4) + (rd l0 x52_5)))))) ?hg ?ho ?hn ?hr ?_; (case ho => rfl); (case hg => rfl); (case hn => rfl); (case hr => first | (go_simp; done) | (go_simp; rfl)); intro w41 hw; have hg : wr.grownBy w41 (some go23) := (by rw [hw]; exact HP40.2); have hp_ : Kd.R (Kd.int .i64) 3 w41 w.heap.size (fun _ => True) (.slice (some ⟨go23, 0, none⟩) x7_5.length co15) y414 := (by rw [hw, Ny414.out]; exact HP40.1); clear HP40; replace HO_7 := Aside0.mk (hp_); replace HB := Aside0.mk ((by rw [hw]; exact below_set (HB.out) GB23.out : Below w.heap.size w w41)); clear hg hw hp_))
                       (try simp only [← hl7_5])
                       go_roundg k5
                       case measure => have := HK1.out; have := HK2.out; have := HK3.out; have := HK4.out; have := HK5.out; omega
                       case rel => exact ⟨(y414), (true), (wrap64 (x52_5 + 1)), Rs, Rs, H', ⟨by have := HK1.out; have := HK2.out; have := HK3.out; have := HK4.out; have := HK5.out; omega⟩, ⟨by (try simp only [hl7_2]); (try simp only [hl7_3]); (try simp only [hl7_4]); (try simp only [hl7_5]); (with_reducible repeat (first | apply Kd.R_alloc | apply Kd.R_drewN | apply Kd.R_drew)); exact HO_7.out⟩, ⟨Ub⟩⟩
                     have c38b0 := decide_eq_false c38
                     (try rw [hl7_5] at c38b0); (try rw [hl7_4] at c38b0); (try rw [hl7_3] at c38b0); (try rw [hl7_2] at c38b0)
                     clear c38
                     have H' := Aside0.mk H
                     clear H
                     have p409 : 0 ≤ (x52_5 : Int) := Oa
                     have q409 : x52_5 < (l0.length : Int) := Oa
                     obtain ⟨ad409, e409, hx409_0⟩ := Kd.at_int HR0.out x52_5 p409 q409
                     obtain rfl : ad403 = ad409 := (by injection e409)
                     replace hx409_0 := (HB.out.cell (World.block_lt_of_cell? w _ hx409_0)).trans hx409_0
                     replace p409 := eq_true p409
                     replace q409 := eq_true q409
                     have p410 : 0 ≤ (x47_4 : Int) := Oa
                     have q410 : x47_4 < (x7_5.length : Int) := Oa
                     obtain ⟨ad410, e410, hx410_0⟩ := Kd.at_int (Kd.R_reads' HO_7.out).2.2 x47_4 p410 q410
                     obtain rfl : (⟨go23, 0, none⟩ : Addr) = ad410 := (by injection e410)
                     (first | simp only [add_plain] at hx410_0 | simp only [add_at] at hx410_0 | simp only [Addr.add, Nat.zero_add] at hx410_0 | skip)
                     replace p410 := eq_true p410
                     replace q410 := eq_true q410
                     have p411 : 0 ≤ (0 : Int) := (by omega)
                     have q411 : 0 < (l0.length : Int) := Oa
                     obtain ⟨ad411, e411, hx411_0⟩ := Kd.at_int HR0.out 0 p411 q411
                     obtain rfl : ad403 = ad411 := (by injection e411)
                     have qi411 : (0 < l0.length) = True := eq_true (by omega)
                     (try rw [show ((0 : Int)).toNat = 0 from rfl] at hx411_0)
                     (try rw [Addr.add_zero'] at hx411_0)
                     replace hx411_0 := (HB.out.cell (World.block_lt_of_cell? w _ hx411_0)).trans hx411_0
                     replace p411 := eq_true p411
                     replace q411 := eq_true q411
                     have p412 : 0 ≤ ((ji35) : Int) := Oa
                     have q412 : (ji35) < (x7_5.length : Int) := Oa
                     obtain ⟨ad412, e412, hx412_0⟩ := Kd.at_int (Kd.R_reads' HO_7.out).2.2 (ji35) p412 q412
                     obtain rfl : (⟨go23, 0, none⟩ : Addr) = ad412 := (by injection e412)
                     (first | simp only [add_plain] at hx412_0 | simp only [add_at] at hx412_0 | simp only [Addr.add, Nat.zero_add] at hx412_0 | skip)
                     replace p412 := eq_true p412
                     replace q412 := eq_true q412
                     go_wp2
                     (try simp only [← hl7_5])
                     go_roundg k5
                     case measure => have := HK1.out; have := HK2.out; have := HK3.out; have := HK4.out; have := HK5.out; omega
                     case rel => exact ⟨(x7_5), (x9_5), (wrap64 (x52_5 + 1)), Rs, Rs, H', ⟨by have := HK1.out; have := HK2.out; have := HK3.out; have := HK4.out; have := HK5.out; omega⟩, ⟨by (try simp only [hl7_2]); (try simp only [hl7_3]); (try simp only [hl7_4]); (try simp only [hl7_5]); (with_reducible repeat (first | apply Kd.R_alloc | apply Kd.R_drewN | apply Kd.R_drew)); exact HO_7.out⟩, ⟨Ub⟩⟩
                   have c28b0 := decide_eq_false c28
                   (try rw [hl7_5] at c28b0); (try rw [hl7_4] at c28b0); (try rw [hl7_3] at c28b0); (try rw [hl7_2] at c28b0)
                   clear c28
                   have H' := Aside0.mk H
                   clear H
                   go_wp2
                   (try simp only [← hl7_4, ← hl7_5])
                   go_roundg k5
                   case measure => have := HK1.out; have := HK2.out; have := HK3.out; have := HK4.out; have := HK5.out; omega
                   case rel => exact ⟨(x7_5), (x9_5), (wrap64 (x47_4 + 1)), Rs, Rs, H', ⟨by have := HK1.out; have := HK2.out; have := HK3.out; have := HK4.out; have := HK5.out; omega⟩, ⟨by (try simp only [hl7_2]); (try simp only [hl7_3]); (try simp only [hl7_4]); (try simp only [hl7_5]); (with_reducible repeat (first | apply Kd.R_alloc | apply Kd.R_drewN | apply Kd.R_drew)); exact HO_7.out⟩, ⟨Ub⟩⟩
               have c27b0 := decide_eq_false c27
               (try rw [hl7_5] at c27b0); (try rw [hl7_4] at c27b0); (try rw [hl7_3] at c27b0); (try rw [hl7_2] at c27b0)
               clear c27
               have H' := Aside0.mk H
               clear H
               go_wp2
               (try simp only [← hl7_3, ← hl7_4])
               go_roundg k4
               case measure => have := HK1.out; have := HK2.out; have := HK3.out; have := HK4.out; omega
               case rel => exact ⟨(x7_4), (x9_4), Rs, H', ⟨by have := HK1.out; have := HK2.out; have := HK3.out; have := HK4.out; omega⟩, ⟨by (try simp only [hl7_2]); (try simp only [hl7_3]); (try simp only [hl7_4]); (with_reducible repeat (first | apply Kd.R_alloc | apply Kd.R_drewN | apply Kd.R_drew)); exact HO_7.out⟩, ⟨Ub⟩⟩
           replace c26 := Bool.eq_false_iff.mpr c26
           subst c26
           have H1 : (some (x7_3, true)) = some (r1, r2) := by rw [if_neg (show ¬ (false = true) by decide)] at H; exact H
           clear H
           have H := H1
           clear H1
           simp only [Option.some.injEq, Prod.mk.injEq] at H
           obtain ⟨rfl, rfl⟩ := H
           go_wp2
           go_ret2
           exact ⟨_, Re, Rm HO_7.out, Ub⟩
     have c9b0 : (x4_1 == 1) = false := beq_eq_false_iff_ne.mpr c9
     have c9b1 := bne_iff_ne.mpr c9
     simp only [Option.some.injEq, Prod.mk.injEq] at H
     obtain ⟨rfl, rfl⟩ := H
     go_wp2
     go_ret2
     exact ⟨_, Re, Nl, Ub⟩
 simp only [Option.some.injEq, Prod.mk.injEq] at H
 obtain ⟨rfl, rfl⟩ := H
 go_enter Try.func58, Try.ntmps58
 go_wp2_with (first | (refine Gl 15 #[.slice A0 l0.length c0] Try.func21 ?_; (with_reducible refine (impl_AreCoins.calls k _ _ l0 false _ (Cm HR0.out) HC0.out A2.out).mono ?_); rintro e w42 ⟨rfl, hb⟩; refine ⟨_, rfl, ?_⟩; replace HB := Aside0.mk (below_step Ub hb); clear hb))
 go_ret2
 exact ⟨_, Re, Nl, Ub⟩

end Go.Proofs.Ytkbllhlmcfjcdaa.PFnChangeLeft
