-- MADE FOR THIS CLAIM by wip/xp/xprint.py (with the kit's print; some functions' contracts proved by hand)
import Derived.Test.YtjjajbgijncfoaaPFnChangeGivenx0
import Derived.Test.YtjjajbgijncfoaaPFnChangeGivenx3
import Derived.Test.YtjjajbgijncfoaaPFnChangeGivenx7
set_option maxHeartbeats 8000000
set_option maxRecDepth 100000
namespace Go.Proofs.Ytjjajbgijncfoaa.PFnChangeGiven
open Go.RowKit Go.Proofs.YtjjajbgijncfoaaW.PrintWords Go.Proofs.YtjjajbgijncfoaaW.PrintLast Go.Proofs.YtjjajbgijncfoaaW.PrintMore Go.Proofs.Ytjjajbgijncfoaa.Xmv
attribute [local go_sem] max2_int min2_int max_two min_two max_three min_three max_four min_four   -- for this text's walks alone
set_option linter.unusedVariables false
set_option linter.unusedSimpArgs false

/-! ### spec_piSum: function 103 -/
def spec_piSum.l0 : Nat → Int → List Int → Int → Int → Option (Int)
 | 0, _, _, _, _ => none
 | k + 1, x3, x6, x7, x8 => if x8 < x7 then (if 0 ≤ x8 then (if x8 < (x6.length : Int) then (spec_piSum.l0 k (wrap64 (x3 + (rd x6 x8))) x6 x7 (wrap64 (x8 + 1))) else (none)) else (none)) else (some x3)
def spec_piSum.f (k : Nat) (l0 : List Int) : Option (Int) := spec_piSum.l0 k 0 l0 (l0.length : Int) 0
theorem spec_piSum.calls (k : Nat) (A0 : Option Addr) (c0 : Nat) (l0 : List Int) (r : Int) (w : World) (hr0 : Kd.C (Kd.int .i64) w A0 l0.length l0) (hc0 : l0.length ≤ c0) (h : spec_piSum.f k l0 = some r) :
 Calls Try.prog 103 #[.slice A0 l0.length c0] w fun e w' => e = .returned (.int .i64 r) ∧ Drawn0 w w' := by
 have HR0 := Aside0.mk hr0
 have HC0 := Aside0.mk hc0
 clear hr0 hc0
 have H := h; unfold spec_piSum.f at H
 clear h
 have H' := Aside0.mk H
 clear H
 go_enter Try.func103, Try.ntmps103
 go_wp2
 go_loopg [3, 8] k (fun kq v3 v8 w' => ∃ (x3_1 : Int) (x8_1 : Int), v3 = .int .i64 x3_1 ∧ v8 = .int .i64 x8_1 ∧ Aside0 (spec_piSum.l0 kq x3_1 l0 (l0.length : Int) x8_1 = some r) ∧ Aside0 (kq ≤ k) ∧ Drawn0 w w')
 case atStart => exact ⟨(0), (0), Rs, Rs, H', ⟨Nat.le_refl _⟩, Dr⟩
 case round =>
  clear H'
  obtain ⟨x3_1, x8_1, rfl, rfl, HA, HK1, ⟨m1, rfl⟩⟩ := hrel
  cases gk with
  | zero => exact absurd HA.out (by simp [spec_piSum.l0])
  | succ k1 =>
   have H := HA.out
   clear HA
   simp only [spec_piSum.l0] at H
   replace H := Ic H; rcases H with ⟨c2, H⟩ | ⟨c2, H⟩
   · have c2b0 := decide_eq_true c2
     clear c2
     replace H := Ip H; obtain ⟨c3, H⟩ := H
     have c3b0 := decide_eq_true c3
     clear c3
     replace H := Ip H; obtain ⟨c4, H⟩ := H
     have c4b0 := decide_eq_true c4
     clear c4
     have H' := Aside0.mk H
     clear H
     obtain ⟨p352, q352, ad352, e352, hx352_0⟩ := Ai HR0.out x8_1
     cases e352
     go_wp2
     go_roundg k1
     case measure => have := HK1.out; omega
     case rel => exact ⟨(wrap64 (x3_1 + (rd l0 x8_1))), (wrap64 (x8_1 + 1)), Rs, Rs, H', ⟨by have := HK1.out; omega⟩, Dr⟩
   have c2b0 := decide_eq_false c2
   clear c2
   obtain rfl := Option.some.inj H
   go_wp2
   go_ret
   exact ⟨Rs, Dr⟩

/-! ### spec_GreedyCount: function 16 -/
def spec_GreedyCount.f (k : Nat) (l0 : List Int) (a1 : Int) : Option (Int × Bool) := (spec_GreedyChange.f k l0 a1).bind fun bt353 => (if bt353.2 = true then ((spec_piSum.f k bt353.1).bind fun t357 => (some (t357, true))) else (some (0, false)))
theorem spec_GreedyCount.calls (k : Nat) (A0 : Option Addr) (c0 : Nat) (l0 : List Int) (a1 : Int) (r1 : Int) (r2 : Bool) (w : World) (hr0 : Kd.C (Kd.int .i64) w A0 l0.length l0) (hc0 : l0.length ≤ c0) (h : spec_GreedyCount.f k l0 a1 = some (r1, r2)) :
 Calls Try.prog 16 #[.slice A0 l0.length c0, .int .i64 a1] w fun e w' => e = .returned (.tuple #[.int .i64 r1, .bool r2]) ∧ Below w.heap.size w w' := by
 have HR0 := Aside0.mk hr0
 have HC0 := Aside0.mk hc0
 clear hr0 hc0
 have HB := Aside0.mk (Below.refl w.heap.size w)
 have H := h; unfold spec_GreedyCount.f at H
 clear h
 replace H := Option.bind_eq_some_iff.mp H
 obtain ⟨⟨t353, t354⟩, A30, H⟩ := H
 have A3 := Aside0.mk A30
 clear A30
 replace H := Iw H; rcases H with ⟨rfl, H⟩ | ⟨rfl, H⟩
 · replace H := Option.bind_eq_some_iff.mp H
   obtain ⟨t357, A50, H⟩ := H
   have A5 := Aside0.mk A50
   clear A50
   simp only [Option.some.injEq, Prod.mk.injEq] at H
   obtain ⟨rfl, rfl⟩ := H
   go_enter Try.func16, Try.ntmps16
   go_wp2_with (first | (refine Gl 11 #[.slice A0 l0.length c0, .int .i64 a1] Try.func14 ?_; (with_reducible refine (spec_GreedyChange.calls k _ _ l0 a1 t353 true _ (Cm HR0.out) HC0.out A3.out).mono ?_); rintro e w6 ⟨v355, rfl, ho0, hb⟩; refine ⟨_, rfl, ?_⟩; have HO356 := Aside0.mk (Kd.R_lower ho0 (below_size Ub)); replace HB := Aside0.mk (below_step Ub hb); clear hb ho0; obtain ⟨Ao7, co7, eo7⟩ := Kd.R_slice HO356.out; subst eo7) | (refine Gl 17 #[.slice Ao7 t353.length co7] Try.func103 ?_; (with_reducible refine (spec_piSum.calls k _ _ t353 t357 _ (Cm (Kd.R_reads' HO356.out).2.2) ((Kd.R_reads' HO356.out).2.1) A5.out).mono ?_); rintro e w' ⟨rfl, ⟨nd, rfl⟩⟩; refine ⟨_, rfl, ?_⟩))
   go_ret2
   exact ⟨Re, Ub⟩
 simp only [Option.some.injEq, Prod.mk.injEq] at H
 obtain ⟨rfl, rfl⟩ := H
 go_enter Try.func16, Try.ntmps16
 go_wp2_with (first | (refine Gl 11 #[.slice A0 l0.length c0, .int .i64 a1] Try.func14 ?_; (with_reducible refine (spec_GreedyChange.calls k _ _ l0 a1 t353 false _ (Cm HR0.out) HC0.out A3.out).mono ?_); rintro e w8 ⟨v355, rfl, ho0, hb⟩; refine ⟨_, rfl, ?_⟩; have HO356 := Aside0.mk (Kd.R_lower ho0 (below_size Ub)); replace HB := Aside0.mk (below_step Ub hb); clear hb ho0))
 go_ret2
 exact ⟨Re, Ub⟩

/-! ### impl_CountChange: function 17 -/
mutual
def impl_CountChange.l0 : Nat → Int → List Int → List Int → Int → Int → Option (Int × Bool)
 | 0, _, _, _, _, _ => none
 | k + 1, x1, x6, x19, x20, x21 => if x21 < x20 then (if 0 ≤ x21 then (if x21 < (x19.length : Int) then (impl_CountChange.l1 k x1 x6 (rd x19 x21) (rd x19 x21) x19 x20 x21) else (none)) else (none)) else (if 0 ≤ x1 then (if x1 < (x6.length : Int) then (if (rd x6 x1) > 1000000000000000 then (some (0, false)) else (some (rd x6 x1, true))) else (none)) else (none))
def impl_CountChange.l1 : Nat → Int → List Int → Int → Int → List Int → Int → Int → Option (Int × Bool)
 | 0, _, _, _, _, _, _, _ => none
 | k + 1, x1, x6, x8, x9, x19, x20, x21 => if x9 ≤ x1 then (if 0 ≤ x9 then (if x9 < (x6.length : Int) then (if 0 ≤ (wrap64 (x9 - x8)) then (if (wrap64 (x9 - x8)) < (x6.length : Int) then (impl_CountChange.l1 k x1 (x6.set (x9 : Int).toNat (mn (wrap64 ((rd x6 x9) + (rd x6 (wrap64 (x9 - x8))))) 1000000000000001)) x8 (wrap64 (x9 + 1)) x19 x20 x21) else (none)) else (none)) else (none)) else (none)) else (impl_CountChange.l0 k x1 x6 x19 x20 (wrap64 (x21 + 1)))
end
def impl_CountChange.f (k : Nat) (l0 : List Int) (a1 : Int) : Option (Int × Bool) := (impl_isAmount.f k l0 a1).bind fun t358 => (if t358 = true then (if 0 ≤ (wrap64 (a1 + 1)) then (if (wrap64 (a1 + 1) : Int).toNat ≤ 35184372088832 then ((some (List.replicate (wrap64 (a1 + 1) : Int).toNat 0 : List Int)).bind fun y359 => (if 0 < (y359.length : Int) then (impl_CountChange.l0 k a1 (y359.set (0 : Int).toNat 1) l0 (l0.length : Int) 0) else (none))) else (none)) else (none)) else (some (0, false)))
def impl_CountChange.T11 : Bool × List (List Nat × List Nat) := (true, [([], []), ([], []), ([], []), ([], []), ([2, 3], [2, 3]), ([4], [4]), ([], []), ([], []), ([], []), ([7, 8], [7, 8]), ([6, 9], [6, 9]), ([10], [10]), ([5, 11], [5, 11]), ([12], [12]), ([0, 1, 0, 1, 2, 3, 4, 5, 6, 7, 8, 9, 10, 11, 12, 13], [0, 1]), ([14, 13, 0, 1, 2, 3, 4, 5, 6, 7, 8, 9, 10, 11, 12, 13], [13, 14])])
def impl_CountChange.B11 : List Nat := [0, 0, 0, 0, 12, 28, 0, 0, 0, 384, 960, 1984, 4092, 8188, 16383, 32767]
theorem impl_CountChange.tab11 : rtab .any (opsOf Try.f17 11) = impl_CountChange.T11 := by kernel_rfl
theorem impl_CountChange.bits11 : waitsOk impl_CountChange.T11.2 impl_CountChange.B11 = true := by kernel_rfl
theorem impl_CountChange.calls (k : Nat) (A0 : Option Addr) (c0 : Nat) (l0 : List Int) (a1 : Int) (r1 : Int) (r2 : Bool) (w : World) (hr0 : Kd.C (Kd.int .i64) w A0 l0.length l0) (hc0 : l0.length ≤ c0) (h : impl_CountChange.f k l0 a1 = some (r1, r2)) :
 Calls Try.prog 17 #[.slice A0 l0.length c0, .int .i64 a1] w fun e w' => e = .returned (.tuple #[.int .i64 r1, .bool r2]) ∧ Below w.heap.size w w' := by
 have HR0 := Aside0.mk hr0
 have HC0 := Aside0.mk hc0
 clear hr0 hc0
 have HB := Aside0.mk (Below.refl w.heap.size w)
 have H := h; unfold impl_CountChange.f at H
 clear h
 replace H := Option.bind_eq_some_iff.mp H
 obtain ⟨t358, A30, H⟩ := H
 have A3 := Aside0.mk A30
 clear A30
 replace H := Iw H; rcases H with ⟨rfl, H⟩ | ⟨rfl, H⟩
 · obtain ⟨ji5, hji5⟩ : ∃ j_ : Int, (wrap64 (a1 + 1)) = j_ := ⟨_, rfl⟩
   replace H : (if 0 ≤ (ji5) then (if (ji5 : Int).toNat ≤ 35184372088832 then ((some (List.replicate (ji5 : Int).toNat 0 : List Int)).bind fun y359 => (if 0 < (y359.length : Int) then (impl_CountChange.l0 k a1 (y359.set (0 : Int).toNat 1) l0 (l0.length : Int) 0) else (none))) else (none)) else (none)) = some (r1, r2) := by first | (rw [hji5] at H; exact H) | (simp only [hji5] at H ⊢; exact H)
   (try rw [hji5] at A3)
   have hji5w : (IntKind.i64.wrap (a1 + 1)) = ji5 := (i64_w _).trans hji5
   replace H := Ip H; obtain ⟨c6, H⟩ := H
   have c6b0 := eq_true c6
   have c6b1 := decide_eq_true c6
   clear c6
   replace H := Ip H; obtain ⟨c7, H⟩ := H
   have c7b0 := eq_true c7
   have c7b1 := decide_eq_true c7
   clear c7
   obtain ⟨y359, hy359⟩ : ∃ y_ : List Int, y_ = (List.replicate (ji5 : Int).toNat 0) := ⟨_, rfl⟩
   replace H : (if 0 < (y359.length : Int) then (impl_CountChange.l0 k a1 (y359.set (0 : Int).toNat 1) l0 (l0.length : Int) 0) else (none)) = some (r1, r2) := by first | (rw [hy359]; with_reducible exact H) | (have H2_ := (Option.bind_some _ _).symm.trans H; rw [hy359]; with_reducible exact H2_) | (have H2_ := (Option.bind_some _ _).symm.trans H; with_reducible exact H2_) | with_reducible exact H | (rw [hy359]; exact H) | exact H
   have Ny359 := Aside0.mk hy359
   clear hy359
   replace H := Ip H; obtain ⟨c8, H⟩ := H
   have c8b0 := decide_eq_true c8
   have c8b1 : decide (0 < y359.length) = true := decide_eq_true (by omega)
   clear c8
   obtain ⟨y362, hy362⟩ : ∃ y_ : List Int, y_ = (y359.set (0 : Int).toNat 1) := ⟨_, rfl⟩
   replace H : (impl_CountChange.l0 k a1 y362 l0 (l0.length : Int) 0) = some (r1, r2) := by first | (rw [hy362]; with_reducible exact H) | (have H2_ := (Option.bind_some _ _).symm.trans H; rw [hy362]; with_reducible exact H2_) | (have H2_ := (Option.bind_some _ _).symm.trans H; with_reducible exact H2_) | with_reducible exact H | (rw [hy362]; exact H) | exact H
   have Ny362 := Aside0.mk hy362
   clear hy362
   have H' := Aside0.mk H
   clear H
   go_enter Try.func17, Try.ntmps17
   go_wp2_with (first | (refine Gl 12 #[.slice A0 l0.length c0, .int .i64 a1] Try.func99 ?_; (with_reducible refine (impl_isAmount.calls k _ _ l0 a1 true _ (Cm HR0.out) HC0.out A3.out).mono ?_); rintro e w10 ⟨rfl, hb⟩; refine ⟨_, rfl, ?_⟩; replace HB := Aside0.mk (below_step Ub hb); clear hb) | ((with_reducible refine gate_dst (N := 16) rfl ?_); refine Kd.R_make (Kd.int .i64) _ 3 rfl (N := 16) rfl 24 _ _ rfl ji5 rfl rfl Try.underlying24 (.int .i64 0) 8 info3 rfl (by decide) (by omega) 0 (ok := fun _ => True) (okp := fun _ => True) rfl (fun _ hk => hk) trivial (Oa) (Nat.le_trans (Nat.mul_le_mul_right _ (Oa : ji5.toNat ≤ 35184372088832)) (by omega)) (Below.refl _ _) (Nat.le_refl _) ?_; intro v360 w11 ho12 hb hg_ hnew_; clear hg_ hnew_; (first | rw [← Ny359.out] at ho12 | (simp only [Int.reduceToNat] at ho12; rw [← Ny359.out] at ho12)); have HO361 := Aside0.mk (Kd.R_lower ho12 (below_size Ub)); replace HB := Aside0.mk (below_step Ub hb); clear hb ho12; have p9 : 0 ≤ (0 : Int) := (by omega); have q9 : (0 : Int) < ((y359.length : Int) : Int) := Oa; have qi9 : (0 < y359.length) = True := eq_true (by omega); obtain ⟨go9, co9, eo9, gb9, gl9, cl9, HG9⟩ := Kd.R_form HO361.out (by omega); (first | cases eo9 | (injection eo9 with ea_ en_ ec_; (first | subst ea_ | (injection ea_ with ea_; subst ea_)); subst ec_; clear en_)); have GB9 := Aside0.mk gb9; have GG9 := Aside0.mk HG9; clear gb9 gl9 HG9; obtain ⟨hx9_0, hf9_0⟩ := Kd.R_celln 0 HO361.out (0 : Int) p9 q9; (try rw [show ((0 : Int)).toNat = 0 from rfl] at hx9_0); (try simp only [Nat.reduceMul, Nat.zero_mul, Nat.zero_add, Nat.reduceAdd] at hx9_0); (try rw [show ((0 : Int)).toNat = 0 from rfl] at hf9_0); (try simp only [Nat.reduceMul, Nat.zero_mul, Nat.zero_add, Nat.reduceAdd] at hf9_0); replace p9 := eq_true p9; replace q9 := eq_true q9; obtain ⟨hy13_, hz13_⟩ := Kd.R_celln 0 HO361.out (0 : Int) (by omega) (Oa); (try simp only [Int.reduceToNat, Int.toNat_zero, Int.toNat_ofNat, Nat.reduceMul, Nat.zero_mul, Nat.zero_add] at hy13_ hz13_); (try rw [show ((0 : Int)).toNat = 0 from rfl] at hy13_); (try rw [show ((0 : Int)).toNat = 0 from rfl] at hz13_); have HP13 := Kd.R_putg HO361.out (0 : Int) 1) | ((with_reducible refine gate_store (t := 3) (p := 18) rfl ?_); refine store_event (t := 3) (p := 18) (v := ?vo_w14) (w1 := (w11.setCell ⟨go9, (0 : Int).toNat, none⟩ (.int .i64 1))) ?hg ?ho ?hn ?hr ?_; (case ho => rfl); (case hg => rfl); (case hn => rfl); (case hr => first | (go_simp; done) | (go_simp; rfl)); intro w14 hw; have hg : w11.grownBy w14 (some go9) := (by rw [hw]; exact HP13.2); have hp_ : Kd.R (Kd.int .i64) 3 w14 w.heap.size (fun _ => True) (.slice (some ⟨go9, 0, none⟩) y359.length co9) y362 := (by rw [hw, Ny362.out]; exact HP13.1); clear HP13; replace HO361 := Aside0.mk (hp_); replace HB := Aside0.mk ((by rw [hw]; exact below_set (HB.out) GB9.out : Below w.heap.size w w14)); clear hg hw hp_))
   go_loopg [21] k (fun kq v21 w' => ∃ (x6_1 : List Int) (x21_1 : Int), v21 = .int .i64 x21_1 ∧ Aside0 (impl_CountChange.l0 kq a1 x6_1 l0 (l0.length : Int) x21_1 = some (r1, r2)) ∧ Aside0 (kq ≤ k) ∧ Aside0 (Kd.R (Kd.int .i64) 3 w' w.heap.size (fun _ => True) (.slice (some ⟨go9, 0, none⟩) y359.length co9) x6_1) ∧ Aside0 (Below w.heap.size w w'))
   case atStart => exact ⟨(y362), (0), Rs, H', ⟨Nat.le_refl _⟩, ⟨Rm HO361.out⟩, ⟨Ub⟩⟩
   case round =>
    clear H'
    try clear c6
    try clear c6b0
    try clear c6b1
    try clear c7
    try clear c7b0
    try clear c7b1
    try clear c8
    try clear c8b0
    try clear c8b1
    try clear p9
    try clear q9
    try clear qi9
    try clear hx9_0
    try clear p9
    try clear q9
    obtain ⟨x6_1, x21_1, rfl, HA, HK1, HO_6, HB⟩ := hrel
    have hl6_1 := (Kd.R_reads' HO_6.out).1
    rw [hl6_1] at HO_6
    (try simp only [hl6_1])
    cases gk with
    | zero => exact absurd HA.out (by simp [impl_CountChange.l0])
    | succ k1 =>
     have H := HA.out
     clear HA
     simp only [impl_CountChange.l0] at H
     replace H := Ic H; rcases H with ⟨c15, H⟩ | ⟨c15, H⟩
     · have c15b0 := decide_eq_true c15
       clear c15
       replace H := Ip H; obtain ⟨c16, H⟩ := H
       have c16b0 := decide_eq_true c16
       clear c16
       replace H := Ip H; obtain ⟨c17, H⟩ := H
       have c17b0 := decide_eq_true c17
       clear c17
       have H' := Aside0.mk H
       clear H
       obtain ⟨p365, q365, ad365, e365, hx365_0⟩ := Ai HR0.out x21_1
       cases e365
       replace hx365_0 := (HB.out.cell (World.block_lt_of_cell? w _ hx365_0)).trans hx365_0
       go_wp2
       go_loopg [9] k1 (fun kq v9 w' => ∃ (x6_2 : List Int) (x9_2 : Int), v9 = .int .i64 x9_2 ∧ Aside0 (impl_CountChange.l1 kq a1 x6_2 (rd l0 x21_1) x9_2 l0 (l0.length : Int) x21_1 = some (r1, r2)) ∧ Aside0 (kq ≤ k1) ∧ Aside0 (Kd.R (Kd.int .i64) 3 w' w.heap.size (fun _ => True) (.slice (some ⟨go9, 0, none⟩) x6_1.length co9) x6_2) ∧ Aside0 (Below w.heap.size w w'))
       case atStart => exact ⟨(x6_1), (rd l0 x21_1), Rs, H', ⟨Nat.le_refl _⟩, ⟨by (try simp only [hl6_1]); (with_reducible repeat (first | apply Kd.R_alloc | apply Kd.R_drewN | apply Kd.R_drew)); exact HO_6.out⟩, ⟨Ub⟩⟩
       case round =>
        clear H'
        try clear c6
        try clear c6b0
        try clear c6b1
        try clear c7
        try clear c7b0
        try clear c7b1
        try clear c8
        try clear c8b0
        try clear c8b1
        try clear p9
        try clear q9
        try clear qi9
        try clear c15
        try clear c15b0
        try clear c16
        try clear c16b0
        try clear c17
        try clear c17b0
        try clear hx365_0
        try clear hx9_0
        try clear p365
        try clear p9
        try clear q365
        try clear q9
        obtain ⟨x6_2, x9_2, rfl, HA, HK2, HO_6, HB⟩ := hrel
        have hl6_2 := (Kd.R_reads' HO_6.out).1
        rw [hl6_2] at HO_6
        (try simp only [hl6_2])
        cases gk with
        | zero => exact absurd HA.out (by simp [impl_CountChange.l1])
        | succ k2 =>
         have H := HA.out
         clear HA
         simp only [impl_CountChange.l1] at H
         replace H := Ic H; rcases H with ⟨c18, H⟩ | ⟨c18, H⟩
         · have c18b0 := decide_eq_true c18
           clear c18
           replace H := Ip H; obtain ⟨c19, H⟩ := H
           have c19b0 := decide_eq_true c19
           clear c19
           replace H := Ip H; obtain ⟨c20, H⟩ := H
           have c20b0 := decide_eq_true c20
           clear c20
           obtain ⟨ji21, hji21⟩ : ∃ j_ : Int, (wrap64 (x9_2 - (rd l0 x21_1))) = j_ := ⟨_, rfl⟩
           replace H : (if 0 ≤ (ji21) then (if (ji21) < (x6_2.length : Int) then (impl_CountChange.l1 k2 a1 (x6_2.set (x9_2 : Int).toNat (mn (wrap64 ((rd x6_2 x9_2) + (rd x6_2 (ji21)))) 1000000000000001)) (rd l0 x21_1) (wrap64 (x9_2 + 1)) l0 (l0.length : Int) x21_1) else (none)) else (none)) = some (r1, r2) := by first | (rw [hji21] at H; exact H) | (simp only [hji21] at H ⊢; exact H)
           have hji21w : (IntKind.i64.wrap (x9_2 - (rd l0 x21_1))) = ji21 := (i64_w _).trans hji21
           replace H := Ip H; obtain ⟨c22, H⟩ := H
           have c22b0 := decide_eq_true c22
           clear c22
           replace H := Ip H; obtain ⟨c23, H⟩ := H
           have c23b0 := decide_eq_true c23
           clear c23
           obtain ⟨ji24, hji24⟩ : ∃ j_ : Int, (mn (wrap64 ((rd x6_2 x9_2) + (rd x6_2 (ji21)))) 1000000000000001) = j_ := ⟨_, rfl⟩
           replace H : (impl_CountChange.l1 k2 a1 (x6_2.set (x9_2 : Int).toNat (ji24)) (rd l0 x21_1) (wrap64 (x9_2 + 1)) l0 (l0.length : Int) x21_1) = some (r1, r2) := by first | (rw [hji24] at H; exact H) | (simp only [hji24] at H ⊢; exact H)
           have hji24_ : (if 1000000000000001 < (wrap64 ((rd x6_2 x9_2) + (rd x6_2 (ji21)))) then 1000000000000001 else (wrap64 ((rd x6_2 x9_2) + (rd x6_2 (ji21))))) = ji24 := hji24
           obtain ⟨y368, hy368⟩ : ∃ y_ : List Int, y_ = (x6_2.set (x9_2 : Int).toNat (ji24)) := ⟨_, rfl⟩
           replace H : (impl_CountChange.l1 k2 a1 y368 (rd l0 x21_1) (wrap64 (x9_2 + 1)) l0 (l0.length : Int) x21_1) = some (r1, r2) := by first | (rw [hy368]; with_reducible exact H) | (have H2_ := (Option.bind_some _ _).symm.trans H; rw [hy368]; with_reducible exact H2_) | (have H2_ := (Option.bind_some _ _).symm.trans H; with_reducible exact H2_) | with_reducible exact H | (rw [hy368]; exact H) | exact H
           have Ny368 := Aside0.mk hy368
           clear hy368
           have H' := Aside0.mk H
           clear H
           try go_wp2
           replace HO_6 := Aside0.mk (Kd.R_drew HO_6.out); replace HB := Aside0.mk (below_drew1 HB.out)
           have p366 : 0 ≤ (x9_2 : Int) := Oa
           have q366 : x9_2 < (x6_2.length : Int) := Oa
           obtain ⟨ad366, e366, hx366_0⟩ := Kd.at_int (Kd.R_reads' HO_6.out).2.2 x9_2 p366 q366
           obtain rfl : (⟨go9, 0, none⟩ : Addr) = ad366 := (by injection e366)
           (first | simp only [add_plain] at hx366_0 | simp only [add_at] at hx366_0 | simp only [Addr.add, Nat.zero_add] at hx366_0 | skip)
           replace p366 := eq_true p366
           replace q366 := eq_true q366
           have p367 : 0 ≤ ((ji21) : Int) := Oa
           have q367 : (ji21) < (x6_2.length : Int) := Oa
           obtain ⟨ad367, e367, hx367_0⟩ := Kd.at_int (Kd.R_reads' HO_6.out).2.2 (ji21) p367 q367
           obtain rfl : (⟨go9, 0, none⟩ : Addr) = ad367 := (by injection e367)
           (first | simp only [add_plain] at hx367_0 | simp only [add_at] at hx367_0 | simp only [Addr.add, Nat.zero_add] at hx367_0 | skip)
           replace p367 := eq_true p367
           replace q367 := eq_true q367
           have p25 : 0 ≤ (x9_2 : Int) := Oa
           have q25 : (x9_2 : Int) < ((x6_2.length : Int) : Int) := Oa
           obtain ⟨hx25_0, hf25_0⟩ := Kd.R_celln 0 HO_6.out (x9_2 : Int) p25 q25
           replace p25 := eq_true p25
           replace q25 := eq_true q25
           have HP27 := Kd.R_putn HO_6.out (x9_2 : Int) ji24
           rw [← Ny368.out] at HP27
           have HQ27 := Aside0.mk HP27
           clear HP27
           refine start_ (n := 16) (S := fun w' => w'.cell? ⟨go9, (x9_2).toNat, none⟩ = some (.int .i64 (rd x6_2 x9_2)) ∧ w'.cell? ⟨go9, ((ji21)).toNat, none⟩ = some (.int .i64 (rd x6_2 (ji21)))) (ds := [15]) #[false, false, false, false, false, false, false, false, false, false, false, false, false, false, false, false] (by kernel_rfl) rfl rfl ⟨hx366_0, hx367_0⟩ (fun hHeld => ?_); refine with_tabW impl_CountChange.tab11 impl_CountChange.bits11 (fun HT_ HW_ => ?_)
           generalize wr.drew = w26 at HO_6 HB HQ27 hf25_0 hx25_0 hx366_0 hx367_0 hHeld ⊢
           refine Pu 0 31 #[true, false, false, false, false, false, false, false, false, false, false, false, false, false, false, false] HT_.out ?_
           refine Pu 1 32 #[true, true, false, false, false, false, false, false, false, false, false, false, false, false, false, false] HT_.out ?_
           refine Pu 2 33 #[true, true, true, false, false, false, false, false, false, false, false, false, false, false, false, false] HT_.out ?_
           refine Pu 3 34 #[true, true, true, true, false, false, false, false, false, false, false, false, false, false, false, false] HT_.out ?_
           refine Pu 4 35 #[true, true, true, true, true, false, false, false, false, false, false, false, false, false, false, false] HT_.out ?_
           refine Pu 6 37 #[true, true, true, true, true, false, true, false, false, false, false, false, false, false, false, false] HT_.out ?_
           refine Pu 7 38 #[true, true, true, true, true, false, true, true, false, false, false, false, false, false, false, false] HT_.out ?_
           refine Pu 8 39 #[true, true, true, true, true, false, true, true, true, false, false, false, false, false, false, false] HT_.out ?_
           refine Pu 9 40 #[true, true, true, true, true, false, true, true, true, true, false, false, false, false, false, false] HT_.out ?_
           refine Pu 10 41 #[true, true, true, true, true, false, true, true, true, true, true, false, false, false, false, false] HT_.out ?_
           refine take_ (i := 5) (N := some 36) (v := ?_) (a' := ?_) #[true, true, true, true, true, true, true, true, true, true, true, false, false, false, false, false] rfl rfl (take_ofW HT_.out HW_.out (by kernel_rfl)) (fun _ _ _ h => h) (Or.inl ⟨by rfl, ?_⟩) hHeld ?_ ?_
           rotate_left
           · rintro w' ⟨s0, s1⟩
             go_simp
             with_reducible rfl
           rotate_left
           · simp only [Act.put, List.setIfInBounds_toArray, List.set_cons_zero, List.set_cons_succ, i64_w, i32_w]
             rfl
           refine take_ (i := 11) (N := some 42) (v := ?_) (a' := ?_) #[true, true, true, true, true, true, true, true, true, true, true, true, false, false, false, false] rfl rfl (take_ofW HT_.out HW_.out (by kernel_rfl)) (fun _ _ _ h => h) (Or.inl ⟨by rfl, ?_⟩) hHeld ?_ ?_
           rotate_left
           · rintro w' ⟨s0, s1⟩
             go_simp
             with_reducible rfl
           rotate_left
           · simp only [Act.put, List.setIfInBounds_toArray, List.set_cons_zero, List.set_cons_succ, i64_w, i32_w]
             rfl
           refine Pu 12 43 #[true, true, true, true, true, true, true, true, true, true, true, true, true, false, false, false] HT_.out ?_
           refine Pu 13 44 #[true, true, true, true, true, true, true, true, true, true, true, true, true, true, false, false] HT_.out ?_
           refine Pu 14 45 #[true, true, true, true, true, true, true, true, true, true, true, true, true, true, true, false] HT_.out ?_
           refine last_ (i := 15) (N := none) #[true, true, true, true, true, true, true, true, true, true, true, true, true, true, true, true] rfl rfl (one_of HT_.out (by kernel_rfl)) (by decide) (fun K hK => ?_)
           refine skip_ (w1 := ?_) (by rfl) rfl ?_ ?_
           rotate_left
           · go_simp
             rfl
           refine hK.out _ _ ?_
           clear hK K
           refine done_ (done_of HT_.out (by kernel_rfl)) ?_
           try go_wp2
           (try simp only [← hl6_2])
           go_roundg k2
           case measure => have := HK1.out; have := HK2.out; omega
           case rel => exact ⟨(y368), (wrap64 (x9_2 + 1)), Rs, H', ⟨by have := HK1.out; have := HK2.out; omega⟩, ⟨by (try simp only [hl6_1]); (try simp only [hl6_2]); (with_reducible repeat (first | apply Kd.R_alloc | apply Kd.R_drewN | apply Kd.R_drew)); exact HQ27.out⟩, ⟨by repeat (first | (with_reducible first | exact HB.out | apply below_alloc | apply pw_below_drewN | apply below_drew1 | refine below_set ?_ GB9.out) | exact HB.out)⟩⟩
         have c18b0 := decide_eq_false c18
         clear c18
         have H' := Aside0.mk H
         clear H
         go_wp2
         (try simp only [← hl6_1, ← hl6_2])
         go_roundg k2
         case measure => have := HK1.out; have := HK2.out; omega
         case rel => exact ⟨(x6_2), (wrap64 (x21_1 + 1)), Rs, H', ⟨by have := HK1.out; have := HK2.out; omega⟩, ⟨by (try simp only [hl6_1]); (try simp only [hl6_2]); (with_reducible repeat (first | apply Kd.R_alloc | apply Kd.R_drewN | apply Kd.R_drew)); exact HO_6.out⟩, ⟨Ub⟩⟩
     have c15b0 := decide_eq_false c15
     clear c15
     replace H := Ip H; obtain ⟨c28, H⟩ := H
     have c28b0 := decide_eq_true c28
     clear c28
     replace H := Ip H; obtain ⟨c29, H⟩ := H
     have c29b0 := decide_eq_true c29
     clear c29
     replace H := Ic H; rcases H with ⟨c30, H⟩ | ⟨c30, H⟩
     · have c30b0 : decide (1000000000000000 < (rd x6_1 a1)) = true := decide_eq_true c30
       clear c30
       simp only [Option.some.injEq, Prod.mk.injEq] at H
       obtain ⟨rfl, rfl⟩ := H
       have p363 : 0 ≤ (a1 : Int) := Oa
       have q363 : a1 < (x6_1.length : Int) := Oa
       obtain ⟨ad363, e363, hx363_0⟩ := Kd.at_int (Kd.R_reads' HO_6.out).2.2 a1 p363 q363
       obtain rfl : (⟨go9, 0, none⟩ : Addr) = ad363 := (by injection e363)
       (first | simp only [add_plain] at hx363_0 | simp only [add_at] at hx363_0 | simp only [Addr.add, Nat.zero_add] at hx363_0 | skip)
       replace p363 := eq_true p363
       replace q363 := eq_true q363
       go_wp2
       go_ret2
       exact ⟨by first | rfl | (simp [errW_none, errW_some] <;> rfl) | (simp only [← hji5]; first | rfl | (simp [errW_none, errW_some] <;> rfl)) | (simp [*, errW_none, errW_some] <;> rfl), Ub⟩
     have c30b0 : decide (1000000000000000 < (rd x6_1 a1)) = false := decide_eq_false c30
     clear c30
     simp only [Option.some.injEq, Prod.mk.injEq] at H
     obtain ⟨rfl, rfl⟩ := H
     have p363 : 0 ≤ (a1 : Int) := Oa
     have q363 : a1 < (x6_1.length : Int) := Oa
     obtain ⟨ad363, e363, hx363_0⟩ := Kd.at_int (Kd.R_reads' HO_6.out).2.2 a1 p363 q363
     obtain rfl : (⟨go9, 0, none⟩ : Addr) = ad363 := (by injection e363)
     (first | simp only [add_plain] at hx363_0 | simp only [add_at] at hx363_0 | simp only [Addr.add, Nat.zero_add] at hx363_0 | skip)
     replace p363 := eq_true p363
     replace q363 := eq_true q363
     have p364 : 0 ≤ (a1 : Int) := Oa
     have q364 : a1 < (x6_1.length : Int) := Oa
     obtain ⟨ad364, e364, hx364_0⟩ := Kd.at_int (Kd.R_reads' HO_6.out).2.2 a1 p364 q364
     obtain rfl : (⟨go9, 0, none⟩ : Addr) = ad364 := (by injection e364)
     (first | simp only [add_plain] at hx364_0 | simp only [add_at] at hx364_0 | simp only [Addr.add, Nat.zero_add] at hx364_0 | skip)
     replace p364 := eq_true p364
     replace q364 := eq_true q364
     go_wp2
     go_ret2
     exact ⟨by first | rfl | (simp [errW_none, errW_some] <;> rfl) | (simp only [← hji5]; first | rfl | (simp [errW_none, errW_some] <;> rfl)) | (simp [*, errW_none, errW_some] <;> rfl), Ub⟩
 simp only [Option.some.injEq, Prod.mk.injEq] at H
 obtain ⟨rfl, rfl⟩ := H
 go_enter Try.func17, Try.ntmps17
 go_wp2_with (first | (refine Gl 12 #[.slice A0 l0.length c0, .int .i64 a1] Try.func99 ?_; (with_reducible refine (impl_isAmount.calls k _ _ l0 a1 false _ (Cm HR0.out) HC0.out A3.out).mono ?_); rintro e w31 ⟨rfl, hb⟩; refine ⟨_, rfl, ?_⟩; replace HB := Aside0.mk (below_step Ub hb); clear hb))
 go_ret2
 exact ⟨Re, Ub⟩

/-! ### spec_l1Least: function 104 -/
def spec_l1Least.f (a0 : Int) (a1 : Int) : Option (Int) := if a0 < a1 then (some a0) else (some a1)
theorem spec_l1Least.calls (a0 : Int) (a1 : Int) (r : Int) (w : World) (h : spec_l1Least.f a0 a1 = some r) :
 Calls Try.prog 104 #[.int .i64 a0, .int .i64 a1] w fun e w' => e = .returned (.int .i64 r) ∧ Drawn0 w w' := by
 have H := h; unfold spec_l1Least.f at H
 clear h
 replace H := Ic H; rcases H with ⟨c3, H⟩ | ⟨c3, H⟩
 · have c3b0 := decide_eq_true c3
   clear c3
   obtain rfl := Option.some.inj H
   go_enter Try.func104, Try.ntmps104
   go_wp2
   go_ret
   exact ⟨Rs, Dr⟩
 have c3b0 := decide_eq_false c3
 clear c3
 obtain rfl := Option.some.inj H
 go_enter Try.func104, Try.ntmps104
 go_wp2
 go_ret
 exact ⟨Rs, Dr⟩

end Go.Proofs.Ytjjajbgijncfoaa.PFnChangeGiven
