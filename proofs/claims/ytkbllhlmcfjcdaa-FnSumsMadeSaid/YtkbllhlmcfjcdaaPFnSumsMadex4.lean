-- MADE FOR THIS CLAIM by wip/xp/xprint.py (with the kit's print; some functions' contracts proved by hand)
import Derived.Test.YtkbllhlmcfjcdaaPFnSumsMadex0
import Derived.Test.YtkbllhlmcfjcdaaPFnSumsMadex3
set_option maxHeartbeats 8000000
set_option maxRecDepth 100000
namespace Go.Proofs.Ytkbllhlmcfjcdaa.PFnSumsMade
open Go.RowKit Go.Proofs.YtkbllhlmcfjcdaaW.PrintWords Go.Proofs.YtkbllhlmcfjcdaaW.PrintLast Go.Proofs.YtkbllhlmcfjcdaaW.PrintMore Go.Proofs.Ytkbllhlmcfjcdaa.Xmv
attribute [local go_sem] max2_int min2_int max_two min_two max_three min_three max_four min_four   -- for this text's walks alone
set_option linter.unusedVariables false
set_option linter.unusedSimpArgs false

/-! ### impl_total: function 75 -/
def impl_total.l0 : Nat → Int → List Int → Int → Int → Option (Int)
 | 0, _, _, _, _ => none
 | k + 1, x3, x6, x7, x8 => if x8 < x7 then (if 0 ≤ x8 then (if x8 < (x6.length : Int) then (impl_total.l0 k (wrap64 (x3 + (rd x6 x8))) x6 x7 (wrap64 (x8 + 1))) else (none)) else (none)) else (some x3)
def impl_total.f (k : Nat) (l0 : List Int) : Option (Int) := impl_total.l0 k 0 l0 (l0.length : Int) 0
theorem impl_total.calls (k : Nat) (A0 : Option Addr) (c0 : Nat) (l0 : List Int) (r : Int) (w : World) (hr0 : Kd.C (Kd.int .i64) w A0 l0.length l0) (hc0 : l0.length ≤ c0) (h : impl_total.f k l0 = some r) :
 Calls Try.prog 75 #[.slice A0 l0.length c0] w fun e w' => e = .returned (.int .i64 r) ∧ Drawn0 w w' := by
 have HR0 := Aside0.mk hr0
 have HC0 := Aside0.mk hc0
 clear hr0 hc0
 have H := h; unfold impl_total.f at H
 clear h
 have H' := Aside0.mk H
 clear H
 go_enter Try.func75, Try.ntmps75
 go_wp2
 go_loopg [3, 8] k (fun kq v3 v8 w' => ∃ (x3_1 : Int) (x8_1 : Int), v3 = .int .i64 x3_1 ∧ v8 = .int .i64 x8_1 ∧ Aside0 (impl_total.l0 kq x3_1 l0 (l0.length : Int) x8_1 = some r) ∧ Aside0 (kq ≤ k) ∧ Drawn0 w w')
 case atStart => exact ⟨(0), (0), Rs, Rs, H', ⟨Nat.le_refl _⟩, Dr⟩
 case round =>
  clear H'
  obtain ⟨x3_1, x8_1, rfl, rfl, HA, HK1, ⟨m1, rfl⟩⟩ := hrel
  cases gk with
  | zero => exact absurd HA.out (by simp [impl_total.l0])
  | succ k1 =>
   have H := HA.out
   clear HA
   simp only [impl_total.l0] at H
   replace H := Ic H; rcases H with ⟨c2, H⟩ | ⟨c2, H⟩
   · have c2b0 := decide_eq_true c2
     clear c2
     replace H := Ip H; obtain ⟨c3, H⟩ := H
     have c3b0 := decide_eq_true c3
     clear c3
     replace H := Ip H; obtain ⟨c4, H⟩ := H
     have c4b0 := decide_eq_true c4
     clear c4
     have H' := Aside0.mk H
     clear H
     obtain ⟨p231, q231, ad231, e231, hx231_0⟩ := Ai HR0.out x8_1
     cases e231
     go_wp2
     go_roundg k1
     case measure => have := HK1.out; omega
     case rel => exact ⟨(wrap64 (x3_1 + (rd l0 x8_1))), (wrap64 (x8_1 + 1)), Rs, Rs, H', ⟨by have := HK1.out; omega⟩, Dr⟩
   have c2b0 := decide_eq_false c2
   clear c2
   obtain rfl := Option.some.inj H
   go_wp2
   go_ret
   exact ⟨Rs, Dr⟩

/-! ### impl_ways: function 105 -/
mutual
def impl_ways.l0 : Nat → List Int → List Int → Int → Int → Option (List Int)
 | 0, _, _, _, _ => none
 | k + 1, x3, x13, x14, x15 => if x15 < x14 then (if 0 ≤ x15 then (if x15 < (x13.length : Int) then (impl_ways.l1 k x3 (rd x13 x15) (wrap64 ((x3.length : Int) - 1)) x13 x14 x15) else (none)) else (none)) else (some x3)
def impl_ways.l1 : Nat → List Int → Int → Int → List Int → Int → Int → Option (List Int)
 | 0, _, _, _, _, _, _ => none
 | k + 1, x3, x5, x6, x13, x14, x15 => if x6 ≥ x5 then (if 0 ≤ x6 then (if x6 < (x3.length : Int) then (if 0 ≤ (wrap64 (x6 - x5)) then (if (wrap64 (x6 - x5)) < (x3.length : Int) then (impl_ways.l1 k (x3.set (x6 : Int).toNat (wrap64 ((rd x3 x6) + (rd x3 (wrap64 (x6 - x5)))))) x5 (wrap64 (x6 - 1)) x13 x14 x15) else (none)) else (none)) else (none)) else (none)) else (impl_ways.l0 k x3 x13 x14 (wrap64 (x15 + 1)))
end
def impl_ways.f (k : Nat) (l0 : List Int) : Option (List Int) := (impl_total.f k l0).bind fun t232 => (if 0 ≤ (wrap64 (t232 + 1)) then (if (wrap64 (t232 + 1) : Int).toNat ≤ 35184372088832 then ((some (List.replicate (wrap64 (t232 + 1) : Int).toNat 0 : List Int)).bind fun y233 => (if 0 < (y233.length : Int) then (impl_ways.l0 k (y233.set (0 : Int).toNat 1) l0 (l0.length : Int) 0) else (none))) else (none)) else (none))
def impl_ways.T9 : Bool × List (List Nat × List Nat) := (true, [([], []), ([], []), ([0, 1], [0, 1]), ([2], [2]), ([], []), ([], []), ([], []), ([5, 6], [5, 6]), ([4, 7], [4, 7]), ([8], [8]), ([3, 9], [3, 9]), ([0, 1, 0, 1, 2, 3, 4, 5, 6, 7, 8, 9, 10], [0, 1]), ([11, 10, 0, 1, 2, 3, 4, 5, 6, 7, 8, 9, 10], [10, 11])])
def impl_ways.B9 : List Nat := [0, 0, 3, 7, 0, 0, 0, 96, 240, 496, 1023, 2047, 4095]
theorem impl_ways.tab9 : rtab .any (opsOf Try.f105 9) = impl_ways.T9 := by kernel_rfl
theorem impl_ways.bits9 : waitsOk impl_ways.T9.2 impl_ways.B9 = true := by kernel_rfl
theorem impl_ways.calls (k : Nat) (A0 : Option Addr) (c0 : Nat) (l0 : List Int) (r : List Int) (w : World) (hr0 : Kd.C (Kd.int .i64) w A0 l0.length l0) (hc0 : l0.length ≤ c0) (h : impl_ways.f k l0 = some r) :
 Calls Try.prog 105 #[.slice A0 l0.length c0] w fun e w' => ∃ v0_ : Value, e = .returned (v0_) ∧ Kd.R (Kd.int .i64) 3 w' w.heap.size (fun _ => True) v0_ r ∧ Below w.heap.size w w' := by
 have HR0 := Aside0.mk hr0
 have HC0 := Aside0.mk hc0
 clear hr0 hc0
 have HB := Aside0.mk (Below.refl w.heap.size w)
 have H := h; unfold impl_ways.f at H
 clear h
 replace H := Option.bind_eq_some_iff.mp H
 obtain ⟨t232, A20, H⟩ := H
 have A2 := Aside0.mk A20
 clear A20
 obtain ⟨ji3, hji3⟩ : ∃ j_ : Int, (wrap64 (t232 + 1)) = j_ := ⟨_, rfl⟩
 replace H : (if 0 ≤ (ji3) then (if (ji3 : Int).toNat ≤ 35184372088832 then ((some (List.replicate (ji3 : Int).toNat 0 : List Int)).bind fun y233 => (if 0 < (y233.length : Int) then (impl_ways.l0 k (y233.set (0 : Int).toNat 1) l0 (l0.length : Int) 0) else (none))) else (none)) else (none)) = some r := by first | (rw [hji3] at H; exact H) | (simp only [hji3] at H ⊢; exact H)
 (try rw [hji3] at A2)
 have hji3w : (IntKind.i64.wrap (t232 + 1)) = ji3 := (i64_w _).trans hji3
 replace H := Ic H; rcases H with ⟨c4, H⟩ | ⟨c4, H⟩
 · have c4b0 := eq_true c4
   have c4b1 := decide_eq_true c4
   clear c4
   replace H := Ip H; obtain ⟨c5, H⟩ := H
   have c5b0 := eq_true c5
   have c5b1 := decide_eq_true c5
   clear c5
   obtain ⟨y233, hy233⟩ : ∃ y_ : List Int, y_ = (List.replicate (ji3 : Int).toNat 0) := ⟨_, rfl⟩
   replace H : (if 0 < (y233.length : Int) then (impl_ways.l0 k (y233.set (0 : Int).toNat 1) l0 (l0.length : Int) 0) else (none)) = some r := by first | (rw [hy233]; with_reducible exact H) | (have H2_ := (Option.bind_some _ _).symm.trans H; rw [hy233]; with_reducible exact H2_) | (have H2_ := (Option.bind_some _ _).symm.trans H; with_reducible exact H2_) | with_reducible exact H | (rw [hy233]; exact H) | exact H
   have Ny233 := Aside0.mk hy233
   clear hy233
   replace H := Ip H; obtain ⟨c6, H⟩ := H
   have c6b0 := decide_eq_true c6
   have c6b1 : decide (0 < y233.length) = true := decide_eq_true (by omega)
   clear c6
   obtain ⟨y236, hy236⟩ : ∃ y_ : List Int, y_ = (y233.set (0 : Int).toNat 1) := ⟨_, rfl⟩
   replace H : (impl_ways.l0 k y236 l0 (l0.length : Int) 0) = some r := by first | (rw [hy236]; with_reducible exact H) | (have H2_ := (Option.bind_some _ _).symm.trans H; rw [hy236]; with_reducible exact H2_) | (have H2_ := (Option.bind_some _ _).symm.trans H; with_reducible exact H2_) | with_reducible exact H | (rw [hy236]; exact H) | exact H
   have Ny236 := Aside0.mk hy236
   clear hy236
   have H' := Aside0.mk H
   clear H
   go_enter Try.func105, Try.ntmps105
   go_wp2_with (first | (refine Gl 8 #[.slice A0 l0.length c0] Try.func75 ?_; (with_reducible refine (impl_total.calls k _ _ l0 t232 _ (Cm HR0.out) HC0.out A2.out).mono ?_); rintro e w' ⟨rfl, ⟨nd, rfl⟩⟩; refine ⟨_, rfl, ?_⟩) | ((with_reducible refine gate_dst (N := 10) rfl ?_); refine Kd.R_make (Kd.int .i64) _ 3 rfl (N := 10) rfl 24 _ _ rfl ji3 rfl rfl Try.underlying24 (.int .i64 0) 8 info3 rfl (by decide) (by omega) 0 (ok := fun _ => True) (okp := fun _ => True) rfl (fun _ hk => hk) trivial (Oa) (Nat.le_trans (Nat.mul_le_mul_right _ (Oa : ji3.toNat ≤ 35184372088832)) (by omega)) (Below.refl _ _) (Nat.le_refl _) ?_; intro v234 w8 ho9 hb hg_ hnew_; clear hg_ hnew_; (first | rw [← Ny233.out] at ho9 | (simp only [Int.reduceToNat] at ho9; rw [← Ny233.out] at ho9)); have HO235 := Aside0.mk (Kd.R_lower ho9 (below_size Ub)); replace HB := Aside0.mk (below_step Ub hb); clear hb ho9; have p7 : 0 ≤ (0 : Int) := (by omega); have q7 : (0 : Int) < ((y233.length : Int) : Int) := Oa; have qi7 : (0 < y233.length) = True := eq_true (by omega); obtain ⟨go7, co7, eo7, gb7, gl7, cl7, HG7⟩ := Kd.R_form HO235.out (by omega); (first | cases eo7 | (injection eo7 with ea_ en_ ec_; (first | subst ea_ | (injection ea_ with ea_; subst ea_)); subst ec_; clear en_)); have GB7 := Aside0.mk gb7; have GG7 := Aside0.mk HG7; clear gb7 gl7 HG7; obtain ⟨hx7_0, hf7_0⟩ := Kd.R_celln 0 HO235.out (0 : Int) p7 q7; (try rw [show ((0 : Int)).toNat = 0 from rfl] at hx7_0); (try simp only [Nat.reduceMul, Nat.zero_mul, Nat.zero_add, Nat.reduceAdd] at hx7_0); (try rw [show ((0 : Int)).toNat = 0 from rfl] at hf7_0); (try simp only [Nat.reduceMul, Nat.zero_mul, Nat.zero_add, Nat.reduceAdd] at hf7_0); replace p7 := eq_true p7; replace q7 := eq_true q7; obtain ⟨hy10_, hz10_⟩ := Kd.R_celln 0 HO235.out (0 : Int) (by omega) (Oa); (try simp only [Int.reduceToNat, Int.toNat_zero, Int.toNat_ofNat, Nat.reduceMul, Nat.zero_mul, Nat.zero_add] at hy10_ hz10_); (try rw [show ((0 : Int)).toNat = 0 from rfl] at hy10_); (try rw [show ((0 : Int)).toNat = 0 from rfl] at hz10_); have HP10 := Kd.R_putg HO235.out (0 : Int) 1) | ((with_reducible refine gate_store (t := 3) (p := 12) rfl ?_); refine store_event (t := 3) (p := 12) (v := ?vo_w11) (w1 := (w8.setCell ⟨go7, (0 : Int).toNat, none⟩ (.int .i64 1))) ?hg ?ho ?hn ?hr ?_; (case ho => rfl); (case hg => rfl); (case hn => rfl); (case hr => first | (go_simp; done) | (go_simp; rfl)); intro w11 hw; have hg : w8.grownBy w11 (some go7) := (by rw [hw]; exact HP10.2); have hp_ : Kd.R (Kd.int .i64) 3 w11 w.heap.size (fun _ => True) (.slice (some ⟨go7, 0, none⟩) y233.length co7) y236 := (by rw [hw, Ny236.out]; exact HP10.1); clear HP10; replace HO235 := Aside0.mk (hp_); replace HB := Aside0.mk ((by rw [hw]; exact below_set (HB.out) GB7.out : Below w.heap.size w w11)); clear hg hw hp_))
   go_loopg [15] k (fun kq v15 w' => ∃ (x3_1 : List Int) (x15_1 : Int), v15 = .int .i64 x15_1 ∧ Aside0 (impl_ways.l0 kq x3_1 l0 (l0.length : Int) x15_1 = some r) ∧ Aside0 (kq ≤ k) ∧ Aside0 (Kd.R (Kd.int .i64) 3 w' w.heap.size (fun _ => True) (.slice (some ⟨go7, 0, none⟩) y233.length co7) x3_1) ∧ Aside0 (Below w.heap.size w w'))
   case atStart => exact ⟨(y236), (0), Rs, H', ⟨Nat.le_refl _⟩, ⟨Rm HO235.out⟩, ⟨Ub⟩⟩
   case round =>
    clear H'
    try clear c4
    try clear c4b0
    try clear c4b1
    try clear c5
    try clear c5b0
    try clear c5b1
    try clear c6
    try clear c6b0
    try clear c6b1
    try clear p7
    try clear q7
    try clear qi7
    try clear hx7_0
    try clear p7
    try clear q7
    obtain ⟨x3_1, x15_1, rfl, HA, HK1, HO_3, HB⟩ := hrel
    have hl3_1 := (Kd.R_reads' HO_3.out).1
    rw [hl3_1] at HO_3
    (try simp only [hl3_1])
    cases gk with
    | zero => exact absurd HA.out (by simp [impl_ways.l0])
    | succ k1 =>
     have H := HA.out
     clear HA
     simp only [impl_ways.l0] at H
     replace H := Ic H; rcases H with ⟨c12, H⟩ | ⟨c12, H⟩
     · have c12b0 := decide_eq_true c12
       clear c12
       replace H := Ip H; obtain ⟨c13, H⟩ := H
       have c13b0 := decide_eq_true c13
       clear c13
       replace H := Ip H; obtain ⟨c14, H⟩ := H
       have c14b0 := decide_eq_true c14
       clear c14
       have H' := Aside0.mk H
       clear H
       obtain ⟨p237, q237, ad237, e237, hx237_0⟩ := Ai HR0.out x15_1
       cases e237
       replace hx237_0 := (HB.out.cell (World.block_lt_of_cell? w _ hx237_0)).trans hx237_0
       go_wp2
       go_loopg [6] k1 (fun kq v6 w' => ∃ (x3_2 : List Int) (x6_2 : Int), v6 = .int .i64 x6_2 ∧ Aside0 (impl_ways.l1 kq x3_2 (rd l0 x15_1) x6_2 l0 (l0.length : Int) x15_1 = some r) ∧ Aside0 (kq ≤ k1) ∧ Aside0 (Kd.R (Kd.int .i64) 3 w' w.heap.size (fun _ => True) (.slice (some ⟨go7, 0, none⟩) x3_1.length co7) x3_2) ∧ Aside0 (Below w.heap.size w w'))
       case atStart => exact ⟨(x3_1), (wrap64 ((x3_1.length : Int) - 1)), Rs, H', ⟨Nat.le_refl _⟩, ⟨by (try simp only [hl3_1]); (with_reducible repeat (first | apply Kd.R_alloc | apply Kd.R_drewN | apply Kd.R_drew)); exact HO_3.out⟩, ⟨Ub⟩⟩
       case round =>
        clear H'
        try clear c4
        try clear c4b0
        try clear c4b1
        try clear c5
        try clear c5b0
        try clear c5b1
        try clear c6
        try clear c6b0
        try clear c6b1
        try clear p7
        try clear q7
        try clear qi7
        try clear c12
        try clear c12b0
        try clear c13
        try clear c13b0
        try clear c14
        try clear c14b0
        try clear hx237_0
        try clear hx7_0
        try clear p237
        try clear p7
        try clear q237
        try clear q7
        obtain ⟨x3_2, x6_2, rfl, HA, HK2, HO_3, HB⟩ := hrel
        have hl3_2 := (Kd.R_reads' HO_3.out).1
        rw [hl3_2] at HO_3
        (try simp only [hl3_2])
        cases gk with
        | zero => exact absurd HA.out (by simp [impl_ways.l1])
        | succ k2 =>
         have H := HA.out
         clear HA
         simp only [impl_ways.l1] at H
         replace H := Ic H; rcases H with ⟨c15, H⟩ | ⟨c15, H⟩
         · have c15b0 : decide ((rd l0 x15_1) ≤ x6_2) = true := decide_eq_true c15
           clear c15
           replace H := Ip H; obtain ⟨c16, H⟩ := H
           have c16b0 := decide_eq_true c16
           clear c16
           replace H := Ip H; obtain ⟨c17, H⟩ := H
           have c17b0 := decide_eq_true c17
           clear c17
           obtain ⟨ji18, hji18⟩ : ∃ j_ : Int, (wrap64 (x6_2 - (rd l0 x15_1))) = j_ := ⟨_, rfl⟩
           replace H : (if 0 ≤ (ji18) then (if (ji18) < (x3_2.length : Int) then (impl_ways.l1 k2 (x3_2.set (x6_2 : Int).toNat (wrap64 ((rd x3_2 x6_2) + (rd x3_2 (ji18))))) (rd l0 x15_1) (wrap64 (x6_2 - 1)) l0 (l0.length : Int) x15_1) else (none)) else (none)) = some r := by first | (rw [hji18] at H; exact H) | (simp only [hji18] at H ⊢; exact H)
           have hji18w : (IntKind.i64.wrap (x6_2 - (rd l0 x15_1))) = ji18 := (i64_w _).trans hji18
           replace H := Ip H; obtain ⟨c19, H⟩ := H
           have c19b0 := decide_eq_true c19
           clear c19
           replace H := Ip H; obtain ⟨c20, H⟩ := H
           have c20b0 := decide_eq_true c20
           clear c20
           obtain ⟨y240, hy240⟩ : ∃ y_ : List Int, y_ = (x3_2.set (x6_2 : Int).toNat (wrap64 ((rd x3_2 x6_2) + (rd x3_2 (ji18))))) := ⟨_, rfl⟩
           replace H : (impl_ways.l1 k2 y240 (rd l0 x15_1) (wrap64 (x6_2 - 1)) l0 (l0.length : Int) x15_1) = some r := by first | (rw [hy240]; with_reducible exact H) | (have H2_ := (Option.bind_some _ _).symm.trans H; rw [hy240]; with_reducible exact H2_) | (have H2_ := (Option.bind_some _ _).symm.trans H; with_reducible exact H2_) | with_reducible exact H | (rw [hy240]; exact H) | exact H
           have Ny240 := Aside0.mk hy240
           clear hy240
           have H' := Aside0.mk H
           clear H
           try go_wp2
           replace HO_3 := Aside0.mk (Kd.R_drew HO_3.out); replace HB := Aside0.mk (below_drew1 HB.out)
           have p238 : 0 ≤ (x6_2 : Int) := Oa
           have q238 : x6_2 < (x3_2.length : Int) := Oa
           obtain ⟨ad238, e238, hx238_0⟩ := Kd.at_int (Kd.R_reads' HO_3.out).2.2 x6_2 p238 q238
           obtain rfl : (⟨go7, 0, none⟩ : Addr) = ad238 := (by injection e238)
           (first | simp only [add_plain] at hx238_0 | simp only [add_at] at hx238_0 | simp only [Addr.add, Nat.zero_add] at hx238_0 | skip)
           replace p238 := eq_true p238
           replace q238 := eq_true q238
           have p239 : 0 ≤ ((ji18) : Int) := Oa
           have q239 : (ji18) < (x3_2.length : Int) := Oa
           obtain ⟨ad239, e239, hx239_0⟩ := Kd.at_int (Kd.R_reads' HO_3.out).2.2 (ji18) p239 q239
           obtain rfl : (⟨go7, 0, none⟩ : Addr) = ad239 := (by injection e239)
           (first | simp only [add_plain] at hx239_0 | simp only [add_at] at hx239_0 | simp only [Addr.add, Nat.zero_add] at hx239_0 | skip)
           replace p239 := eq_true p239
           replace q239 := eq_true q239
           have p21 : 0 ≤ (x6_2 : Int) := Oa
           have q21 : (x6_2 : Int) < ((x3_2.length : Int) : Int) := Oa
           obtain ⟨hx21_0, hf21_0⟩ := Kd.R_celln 0 HO_3.out (x6_2 : Int) p21 q21
           replace p21 := eq_true p21
           replace q21 := eq_true q21
           have HP23 := Kd.R_putn HO_3.out (x6_2 : Int) (wrap64 ((rd x3_2 x6_2) + (rd x3_2 (ji18))))
           rw [← Ny240.out] at HP23
           have HQ23 := Aside0.mk HP23
           clear HP23
           refine start_ (n := 13) (S := fun w' => w'.cell? ⟨go7, (x6_2).toNat, none⟩ = some (.int .i64 (rd x3_2 x6_2)) ∧ w'.cell? ⟨go7, ((ji18)).toNat, none⟩ = some (.int .i64 (rd x3_2 (ji18)))) (ds := [12]) #[false, false, false, false, false, false, false, false, false, false, false, false, false] (by kernel_rfl) rfl rfl ⟨hx238_0, hx239_0⟩ (fun hHeld => ?_); refine with_tabW impl_ways.tab9 impl_ways.bits9 (fun HT_ HW_ => ?_)
           generalize wr.drew = w22 at HO_3 HB HQ23 hf21_0 hx21_0 hx238_0 hx239_0 hHeld ⊢
           refine Pu 0 27 #[true, false, false, false, false, false, false, false, false, false, false, false, false] HT_.out ?_
           refine Pu 1 28 #[true, true, false, false, false, false, false, false, false, false, false, false, false] HT_.out ?_
           refine Pu 2 29 #[true, true, true, false, false, false, false, false, false, false, false, false, false] HT_.out ?_
           refine Pu 4 31 #[true, true, true, false, true, false, false, false, false, false, false, false, false] HT_.out ?_
           refine Pu 5 32 #[true, true, true, false, true, true, false, false, false, false, false, false, false] HT_.out ?_
           refine Pu 6 33 #[true, true, true, false, true, true, true, false, false, false, false, false, false] HT_.out ?_
           refine Pu 7 34 #[true, true, true, false, true, true, true, true, false, false, false, false, false] HT_.out ?_
           refine Pu 8 35 #[true, true, true, false, true, true, true, true, true, false, false, false, false] HT_.out ?_
           refine take_ (i := 3) (N := some 30) (v := ?_) (a' := ?_) #[true, true, true, true, true, true, true, true, true, false, false, false, false] rfl rfl (take_ofW HT_.out HW_.out (by kernel_rfl)) (fun _ _ _ h => h) (Or.inl ⟨by rfl, ?_⟩) hHeld ?_ ?_
           rotate_left
           · rintro w' ⟨s0, s1⟩
             go_simp
             with_reducible rfl
           rotate_left
           · simp only [Act.put, List.setIfInBounds_toArray, List.set_cons_zero, List.set_cons_succ, i64_w, i32_w]
             rfl
           refine take_ (i := 9) (N := some 36) (v := ?_) (a' := ?_) #[true, true, true, true, true, true, true, true, true, true, false, false, false] rfl rfl (take_ofW HT_.out HW_.out (by kernel_rfl)) (fun _ _ _ h => h) (Or.inl ⟨by rfl, ?_⟩) hHeld ?_ ?_
           rotate_left
           · rintro w' ⟨s0, s1⟩
             go_simp
             with_reducible rfl
           rotate_left
           · simp only [Act.put, List.setIfInBounds_toArray, List.set_cons_zero, List.set_cons_succ, i64_w, i32_w]
             rfl
           refine Pu 10 37 #[true, true, true, true, true, true, true, true, true, true, true, false, false] HT_.out ?_
           refine Pu 11 38 #[true, true, true, true, true, true, true, true, true, true, true, true, false] HT_.out ?_
           refine last_ (i := 12) (N := none) #[true, true, true, true, true, true, true, true, true, true, true, true, true] rfl rfl (one_of HT_.out (by kernel_rfl)) (by decide) (fun K hK => ?_)
           refine skip_ (w1 := ?_) (by rfl) rfl ?_ ?_
           rotate_left
           · go_simp
             rfl
           refine hK.out _ _ ?_
           clear hK K
           refine done_ (done_of HT_.out (by kernel_rfl)) ?_
           try go_wp2
           (try simp only [← hl3_2])
           go_roundg k2
           case measure => have := HK1.out; have := HK2.out; omega
           case rel => exact ⟨(y240), (wrap64 (x6_2 - 1)), Rs, H', ⟨by have := HK1.out; have := HK2.out; omega⟩, ⟨by (try simp only [hl3_1]); (try simp only [hl3_2]); (with_reducible repeat (first | apply Kd.R_alloc | apply Kd.R_drewN | apply Kd.R_drew)); exact HQ23.out⟩, ⟨by repeat (first | (with_reducible first | exact HB.out | apply below_alloc | apply pw_below_drewN | apply below_drew1 | refine below_set ?_ GB7.out) | exact HB.out)⟩⟩
         have c15b0 : decide ((rd l0 x15_1) ≤ x6_2) = false := decide_eq_false c15
         clear c15
         have H' := Aside0.mk H
         clear H
         go_wp2
         (try simp only [← hl3_1, ← hl3_2])
         go_roundg k2
         case measure => have := HK1.out; have := HK2.out; omega
         case rel => exact ⟨(x3_2), (wrap64 (x15_1 + 1)), Rs, H', ⟨by have := HK1.out; have := HK2.out; omega⟩, ⟨by (try simp only [hl3_1]); (try simp only [hl3_2]); (with_reducible repeat (first | apply Kd.R_alloc | apply Kd.R_drewN | apply Kd.R_drew)); exact HO_3.out⟩, ⟨Ub⟩⟩
     have c12b0 := decide_eq_false c12
     clear c12
     obtain rfl := Option.some.inj H
     go_wp2
     go_ret
     exact ⟨_, by first | rfl | (simp [errW_none, errW_some] <;> rfl) | (simp only [← hji3]; first | rfl | (simp [errW_none, errW_some] <;> rfl)) | (simp [*, errW_none, errW_some] <;> rfl), Rm HO_3.out, Ub⟩
 exact absurd H (by simp)

/-! ### impl_sums: function 70 -/
def impl_sums.l0 : Nat → List Int → List Int → Int → Int → Option (List Int)
 | 0, _, _, _, _ => none
 | k + 1, x3, x8, x9, x10 => if x10 < x9 then (if 0 ≤ x10 then (if x10 < (x8.length : Int) then (if (rd x8 x10) > 0 then (if x3.length < 17592186044416 then (impl_sums.l0 k (x3 ++ [x10]) x8 x9 (wrap64 (x10 + 1))) else (none)) else (impl_sums.l0 k x3 x8 x9 (wrap64 (x10 + 1)))) else (none)) else (none)) else (some x3)
def impl_sums.f (k : Nat) (l0 : List Int) : Option (List Int) := (impl_ways.f k l0).bind fun t244 => (impl_sums.l0 k (([] : List Int)) t244 (t244.length : Int) 0)
theorem impl_sums.calls (k : Nat) (A0 : Option Addr) (c0 : Nat) (l0 : List Int) (r : List Int) (w : World) (hr0 : Kd.C (Kd.int .i64) w A0 l0.length l0) (hc0 : l0.length ≤ c0) (h : impl_sums.f k l0 = some r) :
 Calls Try.prog 70 #[.slice A0 l0.length c0] w fun e w' => ∃ v0_ : Value, e = .returned (v0_) ∧ Kd.R (Kd.int .i64) 3 w' w.heap.size (fun _ => True) v0_ r ∧ Below w.heap.size w w' := by
 have HR0 := Aside0.mk hr0
 have HC0 := Aside0.mk hc0
 clear hr0 hc0
 have HB := Aside0.mk (Below.refl w.heap.size w)
 have H := h; unfold impl_sums.f at H
 clear h
 obtain ⟨y241, hy241⟩ : ∃ y_ : List Int, y_ = (([] : List Int)) := ⟨_, rfl⟩
 replace H : ((impl_ways.f k l0).bind fun t244 => (impl_sums.l0 k y241 t244 (t244.length : Int) 0)) = some r := by first | (rw [hy241]; with_reducible exact H) | (have H2_ := (Option.bind_some _ _).symm.trans H; rw [hy241]; with_reducible exact H2_) | (have H2_ := (Option.bind_some _ _).symm.trans H; with_reducible exact H2_) | with_reducible exact H | (rw [hy241]; exact H) | exact H
 have Ny241 := Aside0.mk hy241
 clear hy241
 replace H := Option.bind_eq_some_iff.mp H
 obtain ⟨t244, A20, H⟩ := H
 have A2 := Aside0.mk A20
 clear A20
 have H' := Aside0.mk H
 clear H
 go_enter Try.func70, Try.ntmps70
 go_wp2_with (first | ((with_reducible refine gate_dst (N := 6) rfl ?_); refine Kd.R_lit (Kd.int .i64) _ 3 ?hg (N := 6) ?hd (xs := ([] : List Int)) (inner := []) (ok := fun _ => True) (okp := fun _ => True) ?hr ?hp (fun _ hk => hk) trivial (Below.refl _ _) (Nat.le_refl _) (by simp) ?_; (case hd => rfl); (case hg => rfl); (case hr => first | (go_simp; done) | (go_simp; rfl)); (case hp => exact (Reps.none _ _)); intro v242 w3 ho4 hb hg_ hnew_; clear hg_ hnew_; (first | rw [← Ny241.out] at ho4 | (simp only [Int.reduceToNat] at ho4; rw [← Ny241.out] at ho4)); have HO243 := Aside0.mk (Kd.R_lower ho4 (below_size Ub)); replace HB := Aside0.mk (below_step Ub hb); clear hb ho4) | (refine Gl 8 #[.slice A0 l0.length c0] Try.func105 ?_; (with_reducible refine (impl_ways.calls k _ _ l0 t244 _ (Cm (Kd.C_below HR0.out HB.out)) HC0.out A2.out).mono ?_); rintro e w5 ⟨v245, rfl, ho0, hb⟩; refine ⟨_, rfl, ?_⟩; have HO246 := Aside0.mk (Kd.R_lower (Kd.R_new' ho0 (Kd.R_lt (Rm HO243.out))) (below_size Ub)); replace HO243 := Aside0.mk (Kd.R_elder' (Rm HO243.out) (Kd.R_base ho0) hb); replace HB := Aside0.mk (below_step Ub hb); clear hb ho0; obtain ⟨Ao6, co6, eo6⟩ := Kd.R_slice HO246.out; subst eo6))
 go_loopg [3, 10] k (fun kq v3 v10 w' => ∃ (x3_1 : List Int) (x10_1 : Int), v10 = .int .i64 x10_1 ∧ Aside0 (impl_sums.l0 kq x3_1 t244 (t244.length : Int) x10_1 = some r) ∧ Aside0 (kq ≤ k) ∧ Aside0 (Kd.R (Kd.int .i64) 3 w' w.heap.size (fun k_ => some k_ ≠ ((.slice Ao6 t244.length co6) : Value).ownBlock) v3 x3_1) ∧ Aside0 (Kd.R (Kd.int .i64) 3 w' w.heap.size (fun k_ => some k_ ≠ (v3 : Value).ownBlock) (.slice Ao6 t244.length co6) t244) ∧ Aside0 (Below w.heap.size w w'))
 case atStart => exact ⟨(y241), (0), Rs, H', ⟨Nat.le_refl _⟩, ⟨by (with_reducible repeat (first | apply Kd.R_alloc | apply Kd.R_drewN | apply Kd.R_drew)); exact Kd.R_mono HO243.out (fun _ hk => hk.2)⟩, ⟨by (with_reducible repeat (first | apply Kd.R_alloc | apply Kd.R_drewN | apply Kd.R_drew)); exact Kd.R_mono HO246.out (fun _ hk => hk.2)⟩, ⟨Ub⟩⟩
 case round =>
  clear H'
  obtain ⟨x3_1, x10_1, rfl, HA, HK1, HO_3, HO_8, HB⟩ := hrel
  cases gk with
  | zero => exact absurd HA.out (by simp [impl_sums.l0])
  | succ k1 =>
   have H := HA.out
   clear HA
   simp only [impl_sums.l0] at H
   replace H := Ic H; rcases H with ⟨c7, H⟩ | ⟨c7, H⟩
   · have c7b0 := decide_eq_true c7
     clear c7
     replace H := Ip H; obtain ⟨c8, H⟩ := H
     have c8b0 := decide_eq_true c8
     clear c8
     replace H := Ip H; obtain ⟨c9, H⟩ := H
     have c9b0 := decide_eq_true c9
     clear c9
     replace H := Ic H; rcases H with ⟨c10, H⟩ | ⟨c10, H⟩
     · have c10b0 : decide (0 < (rd t244 x10_1)) = true := decide_eq_true c10
       clear c10
       replace H := Ip H; obtain ⟨c11, H⟩ := H
       have LMc11 := Aside0.mk c11
       clear c11
       obtain ⟨y248, hy248⟩ : ∃ y_ : List Int, y_ = (x3_1 ++ [x10_1]) := ⟨_, rfl⟩
       replace H : (impl_sums.l0 k1 y248 t244 (t244.length : Int) (wrap64 (x10_1 + 1))) = some r := by first | (rw [hy248]; with_reducible exact H) | (have H2_ := (Option.bind_some _ _).symm.trans H; rw [hy248]; with_reducible exact H2_) | (have H2_ := (Option.bind_some _ _).symm.trans H; with_reducible exact H2_) | with_reducible exact H | (rw [hy248]; exact H) | exact H
       have Ny248 := Aside0.mk hy248
       clear hy248
       have H' := Aside0.mk H
       clear H
       obtain ⟨p247, q247, ad247, e247, hx247_0⟩ := Ai (Kd.R_reads' HO_8.out).2.2 x10_1
       cases e247
       go_wp2_with (first | ((with_reducible refine gate_builtin (b := .append) (xs := #[.tmp 17, .tmp 19]) rfl ?_); at_builtin; refine Kd.R_append (Kd.int .i64) (w0 := w) w.heap.size rfl (.tmp 17) (.tmp 19) 24 3 (.int .i64 0) 8 rfl Try.underlying24 info3 rfl (by decide) (by omega) u3 x3_1 x10_1 [.int .i64 x10_1] (fun k_ => some k_ ≠ (.slice (some ad247) t244.length co6 : Value).ownBlock) (fun _ => False) rfl rfl ?aP (fun _ hk => hk.elim) ?aF ?aO ?aB ?aS ?aL ?_; (case aP => exact rfl); (case aB => exact Ub); (case aF => exact (fun k_ hk => Kd.fresh' (Kd.R_lt (Rm HO_8.out)) k_ hk)); (case aO => exact (Rm HO_3.out)); (case aS => exact (below_size Ub)); (case aL => have := LMc11.out; omega); intro v249 w12 ho hb hg hat; rw [← Ny248.out] at ho; replace HO_8 := Aside0.mk (Kd.R_after (ok := (fun _ => True)) (by (with_reducible repeat (first | apply Kd.R_alloc | apply Kd.R_drewN | apply Kd.R_drew)); exact Kd.R_mono HO_8.out (fun _ hk => ⟨trivial, hk⟩)) hg hat); replace HB := Aside0.mk (hb); have HO250 := Aside0.mk (ho); clear HO_3; clear ho hb hg hat))
       go_roundg k1
       case measure => have := HK1.out; omega
       case rel => exact ⟨(y248), (wrap64 (x10_1 + 1)), Rs, H', ⟨by have := HK1.out; omega⟩, ⟨Rm HO250.out⟩, ⟨by (with_reducible repeat (first | apply Kd.R_alloc | apply Kd.R_drewN | apply Kd.R_drew)); exact Kd.R_mono HO_8.out (fun _ hk => hk.2)⟩, ⟨Ub⟩⟩
     have c10b0 : decide (0 < (rd t244 x10_1)) = false := decide_eq_false c10
     clear c10
     have H' := Aside0.mk H
     clear H
     obtain ⟨p247, q247, ad247, e247, hx247_0⟩ := Ai (Kd.R_reads' HO_8.out).2.2 x10_1
     cases e247
     go_wp2
     go_roundg k1
     case measure => have := HK1.out; omega
     case rel => exact ⟨(x3_1), (wrap64 (x10_1 + 1)), Rs, H', ⟨by have := HK1.out; omega⟩, ⟨Rm HO_3.out⟩, ⟨Rm HO_8.out⟩, ⟨Ub⟩⟩
   have c7b0 := decide_eq_false c7
   clear c7
   obtain rfl := Option.some.inj H
   go_wp2
   go_ret
   exact ⟨_, Re, by (with_reducible repeat (first | apply Kd.R_alloc | apply Kd.R_drewN | apply Kd.R_drew)); exact Kd.R_mono HO_3.out (fun _ hk => trivial), Ub⟩

/-! ### impl_SumsOf: function 25 -/
def impl_SumsOf.f (k : Nat) (l0 : List Int) : Option (List Int × Bool) := (impl_ArePieces.f k l0).bind fun t251 => (if t251 = true then (if (l0.length : Int) > 12 then (some (([] : List Int), false)) else ((impl_sums.f k l0).bind fun t252 => (some (t252, true)))) else (some (([] : List Int), false)))
theorem impl_SumsOf.calls (k : Nat) (A0 : Option Addr) (c0 : Nat) (l0 : List Int) (r1 : List Int) (r2 : Bool) (w : World) (hr0 : Kd.C (Kd.int .i64) w A0 l0.length l0) (hc0 : l0.length ≤ c0) (h : impl_SumsOf.f k l0 = some (r1, r2)) :
 Calls Try.prog 25 #[.slice A0 l0.length c0] w fun e w' => ∃ v0_ : Value, e = .returned (.tuple #[v0_, .bool r2]) ∧ Kd.R (Kd.int .i64) 3 w' w.heap.size (fun _ => True) v0_ r1 ∧ Below w.heap.size w w' := by
 have HR0 := Aside0.mk hr0
 have HC0 := Aside0.mk hc0
 clear hr0 hc0
 have HB := Aside0.mk (Below.refl w.heap.size w)
 have H := h; unfold impl_SumsOf.f at H
 clear h
 replace H := Option.bind_eq_some_iff.mp H
 obtain ⟨t251, A20, H⟩ := H
 have A2 := Aside0.mk A20
 clear A20
 replace H := Iw H; rcases H with ⟨rfl, H⟩ | ⟨rfl, H⟩
 · replace H := Ic H; rcases H with ⟨c4, H⟩ | ⟨c4, H⟩
   · have c4b0 : decide (12 < (l0.length : Int)) = true := decide_eq_true c4
     have c4b1 : decide (12 < l0.length) = true := decide_eq_true (by omega)
     clear c4
     simp only [Option.some.injEq, Prod.mk.injEq] at H
     obtain ⟨rfl, rfl⟩ := H
     go_enter Try.func25, Try.ntmps25
     go_wp2_with (first | (refine Gl 5 #[.slice A0 l0.length c0] Try.func37 ?_; (with_reducible refine (impl_ArePieces.calls k _ _ l0 true _ (Cm HR0.out) HC0.out A2.out).mono ?_); rintro e w5 ⟨rfl, hb⟩; refine ⟨_, rfl, ?_⟩; replace HB := Aside0.mk (below_step Ub hb); clear hb))
     go_ret2
     exact ⟨_, Re, Nl, Ub⟩
   have c4b0 : decide (12 < (l0.length : Int)) = false := decide_eq_false c4
   have c4b1 : decide (12 < l0.length) = false := decide_eq_false (by omega)
   clear c4
   replace H := Option.bind_eq_some_iff.mp H
   obtain ⟨t252, A60, H⟩ := H
   have A6 := Aside0.mk A60
   clear A60
   simp only [Option.some.injEq, Prod.mk.injEq] at H
   obtain ⟨rfl, rfl⟩ := H
   go_enter Try.func25, Try.ntmps25
   go_wp2_with (first | (refine Gl 5 #[.slice A0 l0.length c0] Try.func37 ?_; (with_reducible refine (impl_ArePieces.calls k _ _ l0 true _ (Cm HR0.out) HC0.out A2.out).mono ?_); rintro e w7 ⟨rfl, hb⟩; refine ⟨_, rfl, ?_⟩; replace HB := Aside0.mk (below_step Ub hb); clear hb) | (refine Gl 13 #[.slice A0 l0.length c0] Try.func70 ?_; (with_reducible refine (impl_sums.calls k _ _ l0 t252 _ (Cm (Kd.C_below HR0.out HB.out)) HC0.out A6.out).mono ?_); rintro e w8 ⟨v253, rfl, ho0, hb⟩; refine ⟨_, rfl, ?_⟩; have HO254 := Aside0.mk (Kd.R_lower ho0 (below_size Ub)); replace HB := Aside0.mk (below_step Ub hb); clear hb ho0))
   go_ret2
   exact ⟨_, Re, Rm HO254.out, Ub⟩
 simp only [Option.some.injEq, Prod.mk.injEq] at H
 obtain ⟨rfl, rfl⟩ := H
 go_enter Try.func25, Try.ntmps25
 go_wp2_with (first | (refine Gl 5 #[.slice A0 l0.length c0] Try.func37 ?_; (with_reducible refine (impl_ArePieces.calls k _ _ l0 false _ (Cm HR0.out) HC0.out A2.out).mono ?_); rintro e w9 ⟨rfl, hb⟩; refine ⟨_, rfl, ?_⟩; replace HB := Aside0.mk (below_step Ub hb); clear hb))
 go_ret2
 exact ⟨_, Re, Nl, Ub⟩

/-! ### spec_l1In: function 97 -/
def spec_l1In.f (a0 : Int) (a1 : Int) (a2 : Int) : Option (Bool) := if a0 ≥ a1 then (some (decide (a0 ≤ a2))) else (some false)
theorem spec_l1In.calls (a0 : Int) (a1 : Int) (a2 : Int) (r : Bool) (w : World) (h : spec_l1In.f a0 a1 a2 = some r) :
 Calls Try.prog 97 #[.int .i64 a0, .int .i64 a1, .int .i64 a2] w fun e w' => e = .returned (.bool r) ∧ Drawn0 w w' := by
 have H := h; unfold spec_l1In.f at H
 clear h
 replace H := Ic H; rcases H with ⟨c4, H⟩ | ⟨c4, H⟩
 · have c4b0 : decide (a1 ≤ a0) = true := decide_eq_true c4
   clear c4
   obtain rfl := Option.some.inj H
   go_enter Try.func97, Try.ntmps97
   go_wp2
   go_ret
   exact ⟨Rs, Dr⟩
 have c4b0 : decide (a1 ≤ a0) = false := decide_eq_false c4
 clear c4
 obtain rfl := Option.some.inj H
 go_enter Try.func97, Try.ntmps97
 go_wp2
 go_ret
 exact ⟨Rs, Dr⟩

/-! ### spec_l1All: function 95 -/
def spec_l1All.l0 : Nat → Int → Int → List Int → Int → Int → Option (Bool)
 | 0, _, _, _, _, _ => none
 | k + 1, x1, x2, x9, x10, x11 => if x11 < x10 then (if 0 ≤ x11 then (if x11 < (x9.length : Int) then ((spec_l1In.f (rd x9 x11) x1 x2).bind fun t256 => (if t256 = true then (spec_l1All.l0 k x1 x2 x9 x10 (wrap64 (x11 + 1))) else (some false))) else (none)) else (none)) else (some true)
def spec_l1All.f (k : Nat) (l0 : List Int) (a1 : Int) (a2 : Int) : Option (Bool) := spec_l1All.l0 k a1 a2 l0 (l0.length : Int) 0
theorem spec_l1All.calls (k : Nat) (A0 : Option Addr) (c0 : Nat) (l0 : List Int) (a1 : Int) (a2 : Int) (r : Bool) (w : World) (hr0 : Kd.C (Kd.int .i64) w A0 l0.length l0) (hc0 : l0.length ≤ c0) (h : spec_l1All.f k l0 a1 a2 = some r) :
 Calls Try.prog 95 #[.slice A0 l0.length c0, .int .i64 a1, .int .i64 a2] w fun e w' => e = .returned (.bool r) ∧ Drawn0 w w' := by
 have HR0 := Aside0.mk hr0
 have HC0 := Aside0.mk hc0
 clear hr0 hc0
 have H := h; unfold spec_l1All.f at H
 clear h
 have H' := Aside0.mk H
 clear H
 go_enter Try.func95, Try.ntmps95
 go_wp2
 go_loopg [11] k (fun kq v11 w' => ∃ (x11_1 : Int), v11 = .int .i64 x11_1 ∧ Aside0 (spec_l1All.l0 kq a1 a2 l0 (l0.length : Int) x11_1 = some r) ∧ Aside0 (kq ≤ k) ∧ Drawn0 w w')
 case atStart => exact ⟨(0), Rs, H', ⟨Nat.le_refl _⟩, Dr⟩
 case round =>
  clear H'
  obtain ⟨x11_1, rfl, HA, HK1, ⟨m1, rfl⟩⟩ := hrel
  cases gk with
  | zero => exact absurd HA.out (by simp [spec_l1All.l0])
  | succ k1 =>
   have H := HA.out
   clear HA
   simp only [spec_l1All.l0] at H
   replace H := Ic H; rcases H with ⟨c4, H⟩ | ⟨c4, H⟩
   · have c4b0 := decide_eq_true c4
     clear c4
     replace H := Ip H; obtain ⟨c5, H⟩ := H
     have c5b0 := decide_eq_true c5
     clear c5
     replace H := Ip H; obtain ⟨c6, H⟩ := H
     have c6b0 := decide_eq_true c6
     clear c6
     replace H := Option.bind_eq_some_iff.mp H
     obtain ⟨t256, A70, H⟩ := H
     have A7 := Aside0.mk A70
     clear A70
     replace H := Iw H; rcases H with ⟨rfl, H⟩ | ⟨rfl, H⟩
     · have H' := Aside0.mk H
       clear H
       obtain ⟨p255, q255, ad255, e255, hx255_0⟩ := Ai HR0.out x11_1
       cases e255
       go_wp2_with (first | (refine Gl 18 #[.int .i64 (rd l0 x11_1), .int .i64 a1, .int .i64 a2] Try.func97 ?_; (with_reducible refine (spec_l1In.calls (rd l0 x11_1) a1 a2 true _ A7.out).mono ?_); rintro e w' ⟨rfl, ⟨nd, rfl⟩⟩; refine ⟨_, rfl, ?_⟩))
       go_roundg k1
       case measure => have := HK1.out; omega
       case rel => exact ⟨(wrap64 (x11_1 + 1)), Rs, H', ⟨by have := HK1.out; omega⟩, Dr⟩
     obtain rfl := Option.some.inj H
     obtain ⟨p255, q255, ad255, e255, hx255_0⟩ := Ai HR0.out x11_1
     cases e255
     go_wp2_with (first | (refine Gl 18 #[.int .i64 (rd l0 x11_1), .int .i64 a1, .int .i64 a2] Try.func97 ?_; (with_reducible refine (spec_l1In.calls (rd l0 x11_1) a1 a2 false _ A7.out).mono ?_); rintro e w' ⟨rfl, ⟨nd, rfl⟩⟩; refine ⟨_, rfl, ?_⟩))
     go_ret
     exact ⟨Rs, Dr⟩
   have c4b0 := decide_eq_false c4
   clear c4
   obtain rfl := Option.some.inj H
   go_wp2
   go_ret
   exact ⟨Rs, Dr⟩

end Go.Proofs.Ytkbllhlmcfjcdaa.PFnSumsMade
