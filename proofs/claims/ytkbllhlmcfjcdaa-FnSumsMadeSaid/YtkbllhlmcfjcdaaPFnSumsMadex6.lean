-- MADE FOR THIS CLAIM by wip/xp/xprint.py (with the kit's print; some functions' contracts proved by hand)
import Derived.Test.YtkbllhlmcfjcdaaPFnSumsMadex0
import Derived.Test.YtkbllhlmcfjcdaaPFnSumsMadex2
import Derived.Test.YtkbllhlmcfjcdaaPFnSumsMadex3
import Derived.Test.YtkbllhlmcfjcdaaPFnSumsMadex4
import Derived.Test.YtkbllhlmcfjcdaaPFnSumsMadex5
set_option maxHeartbeats 8000000
set_option maxRecDepth 100000
namespace Go.Proofs.Ytkbllhlmcfjcdaa.PFnSumsMade
open Go.RowKit Go.Proofs.YtkbllhlmcfjcdaaW.PrintWords Go.Proofs.YtkbllhlmcfjcdaaW.PrintLast Go.Proofs.YtkbllhlmcfjcdaaW.PrintMore Go.Proofs.Ytkbllhlmcfjcdaa.Xmv
attribute [local go_sem] max2_int min2_int max_two min_two max_three min_three max_four min_four   -- for this text's walks alone
set_option linter.unusedVariables false
set_option linter.unusedSimpArgs false

/-! ### spec_SumsOf: function 26 -/
def spec_SumsOf.f (k : Nat) (l0 : List Int) : Option (List Int × Bool) := (spec_piGood.f k l0).bind fun t277 => (if t277 = true then (if (l0.length : Int) > 12 then (some (([] : List Int), false)) else ((spec_piSums.f k l0).bind fun t278 => (some (t278, true)))) else (some (([] : List Int), false)))
theorem spec_SumsOf.calls (k : Nat) (A0 : Option Addr) (c0 : Nat) (l0 : List Int) (r1 : List Int) (r2 : Bool) (w : World) (hr0 : Kd.C (Kd.int .i64) w A0 l0.length l0) (hc0 : l0.length ≤ c0) (h : spec_SumsOf.f k l0 = some (r1, r2)) :
 Calls Try.prog 26 #[.slice A0 l0.length c0] w fun e w' => ∃ v0_ : Value, e = .returned (.tuple #[v0_, .bool r2]) ∧ Kd.R (Kd.int .i64) 3 w' w.heap.size (fun _ => True) v0_ r1 ∧ Below w.heap.size w w' := by
 have HR0 := Aside0.mk hr0
 have HC0 := Aside0.mk hc0
 clear hr0 hc0
 have HB := Aside0.mk (Below.refl w.heap.size w)
 have H := h; unfold spec_SumsOf.f at H
 clear h
 replace H := Option.bind_eq_some_iff.mp H
 obtain ⟨t277, A20, H⟩ := H
 have A2 := Aside0.mk A20
 clear A20
 replace H := Iw H; rcases H with ⟨rfl, H⟩ | ⟨rfl, H⟩
 · replace H := Ic H; rcases H with ⟨c4, H⟩ | ⟨c4, H⟩
   · have c4b0 : decide (12 < (l0.length : Int)) = true := decide_eq_true c4
     have c4b1 : decide (12 < l0.length) = true := decide_eq_true (by omega)
     clear c4
     simp only [Option.some.injEq, Prod.mk.injEq] at H
     obtain ⟨rfl, rfl⟩ := H
     go_enter Try.func26, Try.ntmps26
     go_wp2_with (first | (refine Gl 5 #[.slice A0 l0.length c0] Try.func71 ?_; (with_reducible refine (spec_piGood.calls k _ _ l0 true _ (Cm HR0.out) HC0.out A2.out).mono ?_); rintro e w' ⟨rfl, ⟨nd, rfl⟩⟩; refine ⟨_, rfl, ?_⟩))
     go_ret2
     exact ⟨_, Re, Nl, Ub⟩
   have c4b0 : decide (12 < (l0.length : Int)) = false := decide_eq_false c4
   have c4b1 : decide (12 < l0.length) = false := decide_eq_false (by omega)
   clear c4
   replace H := Option.bind_eq_some_iff.mp H
   obtain ⟨t278, A50, H⟩ := H
   have A5 := Aside0.mk A50
   clear A50
   simp only [Option.some.injEq, Prod.mk.injEq] at H
   obtain ⟨rfl, rfl⟩ := H
   go_enter Try.func26, Try.ntmps26
   go_wp2_with (first | (refine Gl 5 #[.slice A0 l0.length c0] Try.func71 ?_; (with_reducible refine (spec_piGood.calls k _ _ l0 true _ (Cm HR0.out) HC0.out A2.out).mono ?_); rintro e w' ⟨rfl, ⟨nd, rfl⟩⟩; refine ⟨_, rfl, ?_⟩) | (refine Gl 13 #[.slice A0 l0.length c0] Try.func72 ?_; (with_reducible refine (spec_piSums.calls k _ _ l0 t278 _ (Cm HR0.out) HC0.out A5.out).mono ?_); rintro e w6 ⟨v279, rfl, ho0, hb⟩; refine ⟨_, rfl, ?_⟩; have HO280 := Aside0.mk (Kd.R_lower ho0 (below_size Ub)); replace HB := Aside0.mk (below_step Ub hb); clear hb ho0))
   go_ret2
   exact ⟨_, Re, Rm HO280.out, Ub⟩
 simp only [Option.some.injEq, Prod.mk.injEq] at H
 obtain ⟨rfl, rfl⟩ := H
 go_enter Try.func26, Try.ntmps26
 go_wp2_with (first | (refine Gl 5 #[.slice A0 l0.length c0] Try.func71 ?_; (with_reducible refine (spec_piGood.calls k _ _ l0 false _ (Cm HR0.out) HC0.out A2.out).mono ?_); rintro e w' ⟨rfl, ⟨nd, rfl⟩⟩; refine ⟨_, rfl, ?_⟩))
 go_ret2
 exact ⟨_, Re, Nl, Ub⟩

/-! ### impl_CountSums: function 27 -/
def impl_CountSums.f (k : Nat) (l0 : List Int) : Option (Int × Bool) := (impl_ArePieces.f k l0).bind fun t281 => (if t281 = true then ((impl_sums.f k l0).bind fun t282 => (some ((t282.length : Int), true))) else (some (0, false)))
theorem impl_CountSums.calls (k : Nat) (A0 : Option Addr) (c0 : Nat) (l0 : List Int) (r1 : Int) (r2 : Bool) (w : World) (hr0 : Kd.C (Kd.int .i64) w A0 l0.length l0) (hc0 : l0.length ≤ c0) (h : impl_CountSums.f k l0 = some (r1, r2)) :
 Calls Try.prog 27 #[.slice A0 l0.length c0] w fun e w' => e = .returned (.tuple #[.int .i64 r1, .bool r2]) ∧ Below w.heap.size w w' := by
 have HR0 := Aside0.mk hr0
 have HC0 := Aside0.mk hc0
 clear hr0 hc0
 have HB := Aside0.mk (Below.refl w.heap.size w)
 have H := h; unfold impl_CountSums.f at H
 clear h
 replace H := Option.bind_eq_some_iff.mp H
 obtain ⟨t281, A20, H⟩ := H
 have A2 := Aside0.mk A20
 clear A20
 replace H := Iw H; rcases H with ⟨rfl, H⟩ | ⟨rfl, H⟩
 · replace H := Option.bind_eq_some_iff.mp H
   obtain ⟨t282, A40, H⟩ := H
   have A4 := Aside0.mk A40
   clear A40
   simp only [Option.some.injEq, Prod.mk.injEq] at H
   obtain ⟨rfl, rfl⟩ := H
   go_enter Try.func27, Try.ntmps27
   go_wp2_with (first | (refine Gl 5 #[.slice A0 l0.length c0] Try.func37 ?_; (with_reducible refine (impl_ArePieces.calls k _ _ l0 true _ (Cm HR0.out) HC0.out A2.out).mono ?_); rintro e w5 ⟨rfl, hb⟩; refine ⟨_, rfl, ?_⟩; replace HB := Aside0.mk (below_step Ub hb); clear hb) | (refine Gl 8 #[.slice A0 l0.length c0] Try.func70 ?_; (with_reducible refine (impl_sums.calls k _ _ l0 t282 _ (Cm (Kd.C_below HR0.out HB.out)) HC0.out A4.out).mono ?_); rintro e w6 ⟨v283, rfl, ho0, hb⟩; refine ⟨_, rfl, ?_⟩; have HO284 := Aside0.mk (Kd.R_lower ho0 (below_size Ub)); replace HB := Aside0.mk (below_step Ub hb); clear hb ho0; obtain ⟨Ao7, co7, eo7⟩ := Kd.R_slice HO284.out; subst eo7))
   go_ret2
   exact ⟨Re, Ub⟩
 simp only [Option.some.injEq, Prod.mk.injEq] at H
 obtain ⟨rfl, rfl⟩ := H
 go_enter Try.func27, Try.ntmps27
 go_wp2_with (first | (refine Gl 5 #[.slice A0 l0.length c0] Try.func37 ?_; (with_reducible refine (impl_ArePieces.calls k _ _ l0 false _ (Cm HR0.out) HC0.out A2.out).mono ?_); rintro e w8 ⟨rfl, hb⟩; refine ⟨_, rfl, ?_⟩; replace HB := Aside0.mk (below_step Ub hb); clear hb))
 go_ret2
 exact ⟨Re, Ub⟩

/-! ### spec_CountSums: function 28 -/
def spec_CountSums.f (k : Nat) (l0 : List Int) : Option (Int × Bool) := (spec_piGood.f k l0).bind fun t285 => (if t285 = true then ((spec_piSums.f k l0).bind fun t286 => (some ((t286.length : Int), true))) else (some (0, false)))
theorem spec_CountSums.calls (k : Nat) (A0 : Option Addr) (c0 : Nat) (l0 : List Int) (r1 : Int) (r2 : Bool) (w : World) (hr0 : Kd.C (Kd.int .i64) w A0 l0.length l0) (hc0 : l0.length ≤ c0) (h : spec_CountSums.f k l0 = some (r1, r2)) :
 Calls Try.prog 28 #[.slice A0 l0.length c0] w fun e w' => e = .returned (.tuple #[.int .i64 r1, .bool r2]) ∧ Below w.heap.size w w' := by
 have HR0 := Aside0.mk hr0
 have HC0 := Aside0.mk hc0
 clear hr0 hc0
 have HB := Aside0.mk (Below.refl w.heap.size w)
 have H := h; unfold spec_CountSums.f at H
 clear h
 replace H := Option.bind_eq_some_iff.mp H
 obtain ⟨t285, A20, H⟩ := H
 have A2 := Aside0.mk A20
 clear A20
 replace H := Iw H; rcases H with ⟨rfl, H⟩ | ⟨rfl, H⟩
 · replace H := Option.bind_eq_some_iff.mp H
   obtain ⟨t286, A40, H⟩ := H
   have A4 := Aside0.mk A40
   clear A40
   simp only [Option.some.injEq, Prod.mk.injEq] at H
   obtain ⟨rfl, rfl⟩ := H
   go_enter Try.func28, Try.ntmps28
   go_wp2_with (first | (refine Gl 5 #[.slice A0 l0.length c0] Try.func71 ?_; (with_reducible refine (spec_piGood.calls k _ _ l0 true _ (Cm HR0.out) HC0.out A2.out).mono ?_); rintro e w' ⟨rfl, ⟨nd, rfl⟩⟩; refine ⟨_, rfl, ?_⟩) | (refine Gl 8 #[.slice A0 l0.length c0] Try.func72 ?_; (with_reducible refine (spec_piSums.calls k _ _ l0 t286 _ (Cm HR0.out) HC0.out A4.out).mono ?_); rintro e w5 ⟨v287, rfl, ho0, hb⟩; refine ⟨_, rfl, ?_⟩; have HO288 := Aside0.mk (Kd.R_lower ho0 (below_size Ub)); replace HB := Aside0.mk (below_step Ub hb); clear hb ho0; obtain ⟨Ao6, co6, eo6⟩ := Kd.R_slice HO288.out; subst eo6))
   go_ret2
   exact ⟨Re, Ub⟩
 simp only [Option.some.injEq, Prod.mk.injEq] at H
 obtain ⟨rfl, rfl⟩ := H
 go_enter Try.func28, Try.ntmps28
 go_wp2_with (first | (refine Gl 5 #[.slice A0 l0.length c0] Try.func71 ?_; (with_reducible refine (spec_piGood.calls k _ _ l0 false _ (Cm HR0.out) HC0.out A2.out).mono ?_); rintro e w' ⟨rfl, ⟨nd, rfl⟩⟩; refine ⟨_, rfl, ?_⟩))
 go_ret2
 exact ⟨Re, Ub⟩

/-! ### impl_run: function 73 -/
def impl_run.l0 : Nat → Int → List Int → Int → Int → Option (Int)
 | 0, _, _, _, _ => none
 | k + 1, x3, x6, x7, x8 => if x8 < x7 then (if 0 ≤ x8 then (if x8 < (x6.length : Int) then (if (rd x6 x8) > (wrap64 (x3 + 1)) then (some x3) else (impl_run.l0 k (wrap64 (x3 + (rd x6 x8))) x6 x7 (wrap64 (x8 + 1)))) else (none)) else (none)) else (some x3)
def impl_run.f (k : Nat) (l0 : List Int) : Option (Int) := impl_run.l0 k 0 l0 (l0.length : Int) 0
theorem impl_run.calls (k : Nat) (A0 : Option Addr) (c0 : Nat) (l0 : List Int) (r : Int) (w : World) (hr0 : Kd.C (Kd.int .i64) w A0 l0.length l0) (hc0 : l0.length ≤ c0) (h : impl_run.f k l0 = some r) :
 Calls Try.prog 73 #[.slice A0 l0.length c0] w fun e w' => e = .returned (.int .i64 r) ∧ Drawn0 w w' := by
 have HR0 := Aside0.mk hr0
 have HC0 := Aside0.mk hc0
 clear hr0 hc0
 have H := h; unfold impl_run.f at H
 clear h
 have H' := Aside0.mk H
 clear H
 go_enter Try.func73, Try.ntmps73
 go_wp2
 go_loopg [3, 8] k (fun kq v3 v8 w' => ∃ (x3_1 : Int) (x8_1 : Int), v3 = .int .i64 x3_1 ∧ v8 = .int .i64 x8_1 ∧ Aside0 (impl_run.l0 kq x3_1 l0 (l0.length : Int) x8_1 = some r) ∧ Aside0 (kq ≤ k) ∧ Drawn0 w w')
 case atStart => exact ⟨(0), (0), Rs, Rs, H', ⟨Nat.le_refl _⟩, Dr⟩
 case round =>
  clear H'
  obtain ⟨x3_1, x8_1, rfl, rfl, HA, HK1, ⟨m1, rfl⟩⟩ := hrel
  cases gk with
  | zero => exact absurd HA.out (by simp [impl_run.l0])
  | succ k1 =>
   have H := HA.out
   clear HA
   simp only [impl_run.l0] at H
   replace H := Ic H; rcases H with ⟨c2, H⟩ | ⟨c2, H⟩
   · have c2b0 := decide_eq_true c2
     clear c2
     replace H := Ip H; obtain ⟨c3, H⟩ := H
     have c3b0 := decide_eq_true c3
     clear c3
     replace H := Ip H; obtain ⟨c4, H⟩ := H
     have c4b0 := decide_eq_true c4
     clear c4
     replace H := Ic H; rcases H with ⟨c5, H⟩ | ⟨c5, H⟩
     · have c5b0 : decide ((wrap64 (x3_1 + 1)) < (rd l0 x8_1)) = true := decide_eq_true c5
       clear c5
       obtain rfl := Option.some.inj H
       obtain ⟨p289, q289, ad289, e289, hx289_0⟩ := Ai HR0.out x8_1
       cases e289
       go_wp2
       go_ret
       exact ⟨Rs, Dr⟩
     have c5b0 : decide ((wrap64 (x3_1 + 1)) < (rd l0 x8_1)) = false := decide_eq_false c5
     clear c5
     have H' := Aside0.mk H
     clear H
     obtain ⟨p289, q289, ad289, e289, hx289_0⟩ := Ai HR0.out x8_1
     cases e289
     go_wp2
     go_roundg k1
     case measure => have := HK1.out; omega
     case rel => exact ⟨(wrap64 (x3_1 + (rd l0 x8_1))), (wrap64 (x8_1 + 1)), Rs, Rs, H', ⟨by have := HK1.out; omega⟩, Dr⟩
   have c2b0 := decide_eq_false c2
   clear c2
   obtain rfl := Option.some.inj H
   go_wp2
   go_ret
   exact ⟨Rs, Dr⟩

/-! ### impl_RunOf: function 29 -/
def impl_RunOf.f (k : Nat) (l0 : List Int) : Option (Int × Bool) := (impl_ArePieces.f k l0).bind fun t290 => (if t290 = true then ((impl_run.f k l0).bind fun t291 => (some (t291, true))) else (some (0, false)))
theorem impl_RunOf.calls (k : Nat) (A0 : Option Addr) (c0 : Nat) (l0 : List Int) (r1 : Int) (r2 : Bool) (w : World) (hr0 : Kd.C (Kd.int .i64) w A0 l0.length l0) (hc0 : l0.length ≤ c0) (h : impl_RunOf.f k l0 = some (r1, r2)) :
 Calls Try.prog 29 #[.slice A0 l0.length c0] w fun e w' => e = .returned (.tuple #[.int .i64 r1, .bool r2]) ∧ Below w.heap.size w w' := by
 have HR0 := Aside0.mk hr0
 have HC0 := Aside0.mk hc0
 clear hr0 hc0
 have HB := Aside0.mk (Below.refl w.heap.size w)
 have H := h; unfold impl_RunOf.f at H
 clear h
 replace H := Option.bind_eq_some_iff.mp H
 obtain ⟨t290, A20, H⟩ := H
 have A2 := Aside0.mk A20
 clear A20
 replace H := Iw H; rcases H with ⟨rfl, H⟩ | ⟨rfl, H⟩
 · replace H := Option.bind_eq_some_iff.mp H
   obtain ⟨t291, A40, H⟩ := H
   have A4 := Aside0.mk A40
   clear A40
   simp only [Option.some.injEq, Prod.mk.injEq] at H
   obtain ⟨rfl, rfl⟩ := H
   go_enter Try.func29, Try.ntmps29
   go_wp2_with (first | (refine Gl 5 #[.slice A0 l0.length c0] Try.func37 ?_; (with_reducible refine (impl_ArePieces.calls k _ _ l0 true _ (Cm HR0.out) HC0.out A2.out).mono ?_); rintro e w5 ⟨rfl, hb⟩; refine ⟨_, rfl, ?_⟩; replace HB := Aside0.mk (below_step Ub hb); clear hb) | (refine Gl 8 #[.slice A0 l0.length c0] Try.func73 ?_; (with_reducible refine (impl_run.calls k _ _ l0 t291 _ (Cm (Kd.C_below HR0.out HB.out)) HC0.out A4.out).mono ?_); rintro e w' ⟨rfl, ⟨nd, rfl⟩⟩; refine ⟨_, rfl, ?_⟩))
   go_ret2
   exact ⟨Re, Ub⟩
 simp only [Option.some.injEq, Prod.mk.injEq] at H
 obtain ⟨rfl, rfl⟩ := H
 go_enter Try.func29, Try.ntmps29
 go_wp2_with (first | (refine Gl 5 #[.slice A0 l0.length c0] Try.func37 ?_; (with_reducible refine (impl_ArePieces.calls k _ _ l0 false _ (Cm HR0.out) HC0.out A2.out).mono ?_); rintro e w6 ⟨rfl, hb⟩; refine ⟨_, rfl, ?_⟩; replace HB := Aside0.mk (below_step Ub hb); clear hb))
 go_ret2
 exact ⟨Re, Ub⟩

/-! ### spec_RunOf: function 30 -/
def spec_RunOf.f (k : Nat) (l0 : List Int) : Option (Int × Bool) := (spec_piGood.f k l0).bind fun t292 => (if t292 = true then ((spec_piRun.f k l0).bind fun t293 => (some (t293, true))) else (some (0, false)))
theorem spec_RunOf.calls (k : Nat) (A0 : Option Addr) (c0 : Nat) (l0 : List Int) (r1 : Int) (r2 : Bool) (w : World) (hr0 : Kd.C (Kd.int .i64) w A0 l0.length l0) (hc0 : l0.length ≤ c0) (h : spec_RunOf.f k l0 = some (r1, r2)) :
 Calls Try.prog 30 #[.slice A0 l0.length c0] w fun e w' => e = .returned (.tuple #[.int .i64 r1, .bool r2]) ∧ Drawn0 w w' := by
 have HR0 := Aside0.mk hr0
 have HC0 := Aside0.mk hc0
 clear hr0 hc0
 have H := h; unfold spec_RunOf.f at H
 clear h
 replace H := Option.bind_eq_some_iff.mp H
 obtain ⟨t292, A20, H⟩ := H
 have A2 := Aside0.mk A20
 clear A20
 replace H := Iw H; rcases H with ⟨rfl, H⟩ | ⟨rfl, H⟩
 · replace H := Option.bind_eq_some_iff.mp H
   obtain ⟨t293, A40, H⟩ := H
   have A4 := Aside0.mk A40
   clear A40
   simp only [Option.some.injEq, Prod.mk.injEq] at H
   obtain ⟨rfl, rfl⟩ := H
   go_enter Try.func30, Try.ntmps30
   go_wp2_with (first | (refine Gl 5 #[.slice A0 l0.length c0] Try.func71 ?_; (with_reducible refine (spec_piGood.calls k _ _ l0 true _ (Cm HR0.out) HC0.out A2.out).mono ?_); rintro e w' ⟨rfl, ⟨nd, rfl⟩⟩; refine ⟨_, rfl, ?_⟩) | (refine Gl 8 #[.slice A0 l0.length c0] Try.func74 ?_; (with_reducible refine (spec_piRun.calls k _ _ l0 t293 _ (Cm HR0.out) HC0.out A4.out).mono ?_); rintro e w' ⟨rfl, ⟨nd, rfl⟩⟩; refine ⟨_, rfl, ?_⟩))
   go_ret2
   exact ⟨Rs, Dr⟩
 simp only [Option.some.injEq, Prod.mk.injEq] at H
 obtain ⟨rfl, rfl⟩ := H
 go_enter Try.func30, Try.ntmps30
 go_wp2_with (first | (refine Gl 5 #[.slice A0 l0.length c0] Try.func71 ?_; (with_reducible refine (spec_piGood.calls k _ _ l0 false _ (Cm HR0.out) HC0.out A2.out).mono ?_); rintro e w' ⟨rfl, ⟨nd, rfl⟩⟩; refine ⟨_, rfl, ?_⟩))
 go_ret2
 exact ⟨Rs, Dr⟩

/-! ### impl_missing: function 76 -/
def impl_missing.l0 : Nat → List Int → List Bool → Int → Int → Option (List Int × Bool)
 | 0, _, _, _, _ => none
 | k + 1, x4, x8, x9, x10 => if x10 < x9 then (if 0 ≤ x10 then (if x10 < (x8.length : Int) then (if rdOf false x8 x10 = true then (impl_missing.l0 k x4 x8 x9 (wrap64 (x10 + 1))) else (if (x4.length : Int) = 1000 then (some (([] : List Int), false)) else (if x4.length < 17592186044416 then (impl_missing.l0 k (x4 ++ [x10]) x8 x9 (wrap64 (x10 + 1))) else (none)))) else (none)) else (none)) else (some (x4, true))
def impl_missing.f (k : Nat) (l0 : List Bool) : Option (List Int × Bool) := impl_missing.l0 k (([] : List Int)) l0 (l0.length : Int) 0
theorem impl_missing.calls (k : Nat) (A0 : Option Addr) (c0 : Nat) (l0 : List Bool) (r1 : List Int) (r2 : Bool) (w : World) (hr0 : Kd.C Kd.bool w A0 l0.length l0) (hc0 : l0.length ≤ c0) (h : impl_missing.f k l0 = some (r1, r2)) :
 Calls Try.prog 76 #[.slice A0 l0.length c0] w fun e w' => ∃ v0_ : Value, e = .returned (.tuple #[v0_, .bool r2]) ∧ Kd.R (Kd.int .i64) 3 w' w.heap.size (fun _ => True) v0_ r1 ∧ Below w.heap.size w w' := by
 have HR0 := Aside0.mk hr0
 have HC0 := Aside0.mk hc0
 clear hr0 hc0
 have HB := Aside0.mk (Below.refl w.heap.size w)
 have H := h; unfold impl_missing.f at H
 clear h
 obtain ⟨y294, hy294⟩ : ∃ y_ : List Int, y_ = (([] : List Int)) := ⟨_, rfl⟩
 replace H : (impl_missing.l0 k y294 l0 (l0.length : Int) 0) = some (r1, r2) := by first | (rw [hy294]; with_reducible exact H) | (have H2_ := (Option.bind_some _ _).symm.trans H; rw [hy294]; with_reducible exact H2_) | (have H2_ := (Option.bind_some _ _).symm.trans H; with_reducible exact H2_) | with_reducible exact H | (rw [hy294]; exact H) | exact H
 have Ny294 := Aside0.mk hy294
 clear hy294
 have H' := Aside0.mk H
 clear H
 go_enter Try.func76, Try.ntmps76
 go_wp2_with (first | ((with_reducible refine gate_dst (N := 7) rfl ?_); refine Kd.R_lit (Kd.int .i64) _ 3 ?hg (N := 7) ?hd (xs := ([] : List Int)) (inner := []) (ok := fun _ => True) (okp := fun _ => True) ?hr ?hp (fun _ hk => hk) trivial (Below.refl _ _) (Nat.le_refl _) (by simp) ?_; (case hd => rfl); (case hg => rfl); (case hr => first | (go_simp; done) | (go_simp; rfl)); (case hp => exact (Reps.none _ _)); intro v295 w2 ho3 hb hg_ hnew_; clear hg_ hnew_; (first | rw [← Ny294.out] at ho3 | (simp only [Int.reduceToNat] at ho3; rw [← Ny294.out] at ho3)); have HO296 := Aside0.mk (Kd.R_lower ho3 (below_size Ub)); replace HB := Aside0.mk (below_step Ub hb); clear hb ho3))
 go_loopg [4, 10] k (fun kq v4 v10 w' => ∃ (x4_1 : List Int) (x10_1 : Int), v10 = .int .i64 x10_1 ∧ Aside0 (impl_missing.l0 kq x4_1 l0 (l0.length : Int) x10_1 = some (r1, r2)) ∧ Aside0 (kq ≤ k) ∧ Aside0 (Kd.R (Kd.int .i64) 3 w' w.heap.size (fun _ => True) v4 x4_1) ∧ Aside0 (Below w.heap.size w w'))
 case atStart => exact ⟨(y294), (0), Rs, H', ⟨Nat.le_refl _⟩, ⟨Rm HO296.out⟩, ⟨Ub⟩⟩
 case round =>
  clear H'
  obtain ⟨x4_1, x10_1, rfl, HA, HK1, HO_4, HB⟩ := hrel
  cases gk with
  | zero => exact absurd HA.out (by simp [impl_missing.l0])
  | succ k1 =>
   have H := HA.out
   clear HA
   simp only [impl_missing.l0] at H
   replace H := Ic H; rcases H with ⟨c4, H⟩ | ⟨c4, H⟩
   · have c4b0 := decide_eq_true c4
     clear c4
     replace H := Ip H; obtain ⟨c5, H⟩ := H
     have c5b0 := decide_eq_true c5
     clear c5
     replace H := Ip H; obtain ⟨c6, H⟩ := H
     have c6b0 := decide_eq_true c6
     clear c6
     obtain ⟨bq7, hbq7⟩ : ∃ b_ : Bool, b_ = (rdOf false l0 x10_1) := ⟨_, rfl⟩
     replace H : (if bq7 = true then (impl_missing.l0 k1 x4_1 l0 (l0.length : Int) (wrap64 (x10_1 + 1))) else (if (x4_1.length : Int) = 1000 then (some (([] : List Int), false)) else (if x4_1.length < 17592186044416 then (impl_missing.l0 k1 (x4_1 ++ [x10_1]) l0 (l0.length : Int) (wrap64 (x10_1 + 1))) else (none)))) = some (r1, r2) := by rw [← hbq7] at H; exact H
     have Nbq7 := Aside0.mk hbq7
     clear hbq7
     by_cases c8 : bq7 = true
     · subst c8
       have H1 : (impl_missing.l0 k1 x4_1 l0 (l0.length : Int) (wrap64 (x10_1 + 1))) = some (r1, r2) := by rw [if_pos rfl] at H; exact H
       clear H
       have H := H1
       clear H1
       have H' := Aside0.mk H
       clear H
       have p297 : 0 ≤ (x10_1 : Int) := Oa
       have q297 : x10_1 < (l0.length : Int) := Oa
       obtain ⟨ad297, e297, hx297_0⟩ := Kd.at_bool HR0.out x10_1 p297 q297
       (try rw [← Nbq7.out] at hx297_0)
       cases e297
       replace hx297_0 := (HB.out.cell (World.block_lt_of_cell? w _ hx297_0)).trans hx297_0
       replace p297 := eq_true p297
       replace q297 := eq_true q297
       go_wp2
       go_roundg k1
       case measure => have := HK1.out; omega
       case rel => exact ⟨(x4_1), (wrap64 (x10_1 + 1)), Rs, H', ⟨by have := HK1.out; omega⟩, ⟨Rm HO_4.out⟩, ⟨Ub⟩⟩
     replace c8 := Bool.eq_false_iff.mpr c8
     subst c8
     have H1 : (if (x4_1.length : Int) = 1000 then (some (([] : List Int), false)) else (if x4_1.length < 17592186044416 then (impl_missing.l0 k1 (x4_1 ++ [x10_1]) l0 (l0.length : Int) (wrap64 (x10_1 + 1))) else (none))) = some (r1, r2) := by rw [if_neg (show ¬ (false = true) by decide)] at H; exact H
     clear H
     have H := H1
     clear H1
     replace H := Ic H; rcases H with ⟨c9, H⟩ | ⟨c9, H⟩
     · have c9b0 : ((x4_1.length : Int) == 1000) = true := beq_iff_eq.mpr c9
       have c9b1 := bne_eq_false_iff_eq.mpr c9
       clear c9
       simp only [Option.some.injEq, Prod.mk.injEq] at H
       obtain ⟨rfl, rfl⟩ := H
       have p297 : 0 ≤ (x10_1 : Int) := Oa
       have q297 : x10_1 < (l0.length : Int) := Oa
       obtain ⟨ad297, e297, hx297_0⟩ := Kd.at_bool HR0.out x10_1 p297 q297
       (try rw [← Nbq7.out] at hx297_0)
       cases e297
       replace hx297_0 := (HB.out.cell (World.block_lt_of_cell? w _ hx297_0)).trans hx297_0
       replace p297 := eq_true p297
       replace q297 := eq_true q297
       obtain ⟨Ao10, co10, eo10⟩ := Kd.R_slice HO_4.out
       subst eo10
       go_wp2
       go_ret2
       exact ⟨_, Re, Nl, Ub⟩
     have c9b0 : ((x4_1.length : Int) == 1000) = false := beq_eq_false_iff_ne.mpr c9
     have c9b1 := bne_iff_ne.mpr c9
     replace H := Ip H; obtain ⟨c11, H⟩ := H
     have LMc11 := Aside0.mk c11
     clear c11
     obtain ⟨y298, hy298⟩ : ∃ y_ : List Int, y_ = (x4_1 ++ [x10_1]) := ⟨_, rfl⟩
     replace H : (impl_missing.l0 k1 y298 l0 (l0.length : Int) (wrap64 (x10_1 + 1))) = some (r1, r2) := by first | (rw [hy298]; with_reducible exact H) | (have H2_ := (Option.bind_some _ _).symm.trans H; rw [hy298]; with_reducible exact H2_) | (have H2_ := (Option.bind_some _ _).symm.trans H; with_reducible exact H2_) | with_reducible exact H | (rw [hy298]; exact H) | exact H
     have Ny298 := Aside0.mk hy298
     clear hy298
     have H' := Aside0.mk H
     clear H
     have p297 : 0 ≤ (x10_1 : Int) := Oa
     have q297 : x10_1 < (l0.length : Int) := Oa
     obtain ⟨ad297, e297, hx297_0⟩ := Kd.at_bool HR0.out x10_1 p297 q297
     (try rw [← Nbq7.out] at hx297_0)
     cases e297
     replace hx297_0 := (HB.out.cell (World.block_lt_of_cell? w _ hx297_0)).trans hx297_0
     replace p297 := eq_true p297
     replace q297 := eq_true q297
     obtain ⟨Ao12, co12, eo12⟩ := Kd.R_slice HO_4.out
     subst eo12
     go_wp2_with (first | ((with_reducible refine gate_builtin (b := .append) (xs := #[.tmp 19, .tmp 21]) rfl ?_); at_builtin; refine Kd.R_append (Kd.int .i64) (w0 := w) w.heap.size rfl (.tmp 19) (.tmp 21) 24 3 (.int .i64 0) 8 rfl Try.underlying24 info3 rfl (by decide) (by omega) (.slice Ao12 x4_1.length co12) x4_1 x10_1 [.int .i64 x10_1] (fun _ => True) (fun _ => False) rfl rfl ?aP (fun _ hk => hk.elim) ?aF ?aO ?aB ?aS ?aL ?_; (case aP => exact rfl); (case aB => exact Ub); (case aF => exact (fun _ _ => trivial)); (case aO => exact (Rm HO_4.out)); (case aS => exact (below_size Ub)); (case aL => have := LMc11.out; omega); intro v299 w13 ho hb hg hat; rw [← Ny298.out] at ho; replace HB := Aside0.mk (hb); have HO300 := Aside0.mk (ho); clear HO_4; clear ho hb hg hat))
     go_roundg k1
     case measure => have := HK1.out; omega
     case rel => exact ⟨(y298), (wrap64 (x10_1 + 1)), Rs, H', ⟨by have := HK1.out; omega⟩, ⟨Rm HO300.out⟩, ⟨Ub⟩⟩
   have c4b0 := decide_eq_false c4
   clear c4
   simp only [Option.some.injEq, Prod.mk.injEq] at H
   obtain ⟨rfl, rfl⟩ := H
   go_wp2
   go_ret2
   exact ⟨_, Re, Rm HO_4.out, Ub⟩

/-! ### impl_GapsOf: function 31 -/
def impl_GapsOf.l0 : Nat → List Bool → List Int → Int → Int → Option (List Int × Bool)
 | 0, _, _, _, _ => none
 | k + 1, x4, x15, x16, x17 => if x17 < x16 then (if 0 ≤ x17 then (if x17 < (x15.length : Int) then (if 0 ≤ (rd x15 x17) then (if (rd x15 x17) < (x4.length : Int) then (impl_GapsOf.l0 k (x4.set ((rd x15 x17) : Int).toNat true) x15 x16 (wrap64 (x17 + 1))) else (none)) else (none)) else (none)) else (none)) else ((impl_missing.f k x4).bind fun bt311 => (some (bt311.1, bt311.2)))
def impl_GapsOf.f (k : Nat) (l0 : List Int) : Option (List Int × Bool) := (impl_ArePieces.f k l0).bind fun t301 => (if t301 = true then ((impl_total.f k l0).bind fun t302 => (if 0 ≤ (wrap64 (t302 + 1)) then (if (wrap64 (t302 + 1) : Int).toNat ≤ 281474976710656 then ((impl_sums.f k l0).bind fun t306 => (impl_GapsOf.l0 k (List.replicate (wrap64 (t302 + 1) : Int).toNat false) t306 (t306.length : Int) 0)) else (none)) else (none))) else (some (([] : List Int), false)))
theorem impl_GapsOf.calls (k : Nat) (A0 : Option Addr) (c0 : Nat) (l0 : List Int) (r1 : List Int) (r2 : Bool) (w : World) (hr0 : Kd.C (Kd.int .i64) w A0 l0.length l0) (hc0 : l0.length ≤ c0) (h : impl_GapsOf.f k l0 = some (r1, r2)) :
 Calls Try.prog 31 #[.slice A0 l0.length c0] w fun e w' => ∃ v0_ : Value, e = .returned (.tuple #[v0_, .bool r2]) ∧ Kd.R (Kd.int .i64) 3 w' w.heap.size (fun _ => True) v0_ r1 ∧ Below w.heap.size w w' := by
 have HR0 := Aside0.mk hr0
 have HC0 := Aside0.mk hc0
 clear hr0 hc0
 have HB := Aside0.mk (Below.refl w.heap.size w)
 have H := h; unfold impl_GapsOf.f at H
 clear h
 replace H := Option.bind_eq_some_iff.mp H
 obtain ⟨t301, A20, H⟩ := H
 have A2 := Aside0.mk A20
 clear A20
 replace H := Iw H; rcases H with ⟨rfl, H⟩ | ⟨rfl, H⟩
 · replace H := Option.bind_eq_some_iff.mp H
   obtain ⟨t302, A40, H⟩ := H
   have A4 := Aside0.mk A40
   clear A40
   obtain ⟨ji5, hji5⟩ : ∃ j_ : Int, (wrap64 (t302 + 1)) = j_ := ⟨_, rfl⟩
   replace H : (if 0 ≤ (ji5) then (if (ji5 : Int).toNat ≤ 281474976710656 then ((impl_sums.f k l0).bind fun t306 => (impl_GapsOf.l0 k (List.replicate (ji5 : Int).toNat false) t306 (t306.length : Int) 0)) else (none)) else (none)) = some (r1, r2) := by first | (rw [hji5] at H; exact H) | (simp only [hji5] at H ⊢; exact H)
   (try rw [hji5] at A2)
   (try rw [hji5] at A4)
   have hji5w : (IntKind.i64.wrap (t302 + 1)) = ji5 := (i64_w _).trans hji5
   replace H := Ip H; obtain ⟨c6, H⟩ := H
   have c6b0 := eq_true c6
   have c6b1 := decide_eq_true c6
   clear c6
   replace H := Ip H; obtain ⟨c7, H⟩ := H
   have c7b0 := eq_true c7
   have c7b1 := decide_eq_true c7
   clear c7
   obtain ⟨y303, hy303⟩ : ∃ y_ : List Bool, y_ = (List.replicate (ji5 : Int).toNat false) := ⟨_, rfl⟩
   replace H : ((impl_sums.f k l0).bind fun t306 => (impl_GapsOf.l0 k y303 t306 (t306.length : Int) 0)) = some (r1, r2) := by first | (rw [hy303]; with_reducible exact H) | (have H2_ := (Option.bind_some _ _).symm.trans H; rw [hy303]; with_reducible exact H2_) | (have H2_ := (Option.bind_some _ _).symm.trans H; with_reducible exact H2_) | with_reducible exact H | (rw [hy303]; exact H) | exact H
   have Ny303 := Aside0.mk hy303
   clear hy303
   replace H := Option.bind_eq_some_iff.mp H
   obtain ⟨t306, A80, H⟩ := H
   have A8 := Aside0.mk A80
   clear A80
   have H' := Aside0.mk H
   clear H
   go_enter Try.func31, Try.ntmps31
   go_wp2_with (first | (refine Gl 8 #[.slice A0 l0.length c0] Try.func37 ?_; (with_reducible refine (impl_ArePieces.calls k _ _ l0 true _ (Cm HR0.out) HC0.out A2.out).mono ?_); rintro e w9 ⟨rfl, hb⟩; refine ⟨_, rfl, ?_⟩; replace HB := Aside0.mk (below_step Ub hb); clear hb) | (refine Gl 11 #[.slice A0 l0.length c0] Try.func75 ?_; (with_reducible refine (impl_total.calls k _ _ l0 t302 _ (Cm (Kd.C_below HR0.out HB.out)) HC0.out A4.out).mono ?_); rintro e w' ⟨rfl, ⟨nd, rfl⟩⟩; refine ⟨_, rfl, ?_⟩) | ((with_reducible refine gate_dst (N := 13) rfl ?_); refine Kd.R_make Kd.bool _ 4 rfl (N := 13) rfl 47 _ _ rfl ji5 rfl rfl Try.underlying47 (.bool false) 1 info4 rfl (by decide) (by omega) false (ok := fun _ => True) (okp := fun _ => True) rfl (fun _ hk => hk) trivial (Oa) (Nat.le_trans (Nat.mul_le_mul_right _ (Oa : ji5.toNat ≤ 281474976710656)) (by omega)) (Below.refl _ _) (Nat.le_refl _) ?_; intro v304 w10 ho11 hb hg_ hnew_; clear hg_ hnew_; (first | rw [← Ny303.out] at ho11 | (simp only [Int.reduceToNat] at ho11; rw [← Ny303.out] at ho11)); have HO305 := Aside0.mk (Kd.R_lower ho11 (below_size Ub)); replace HB := Aside0.mk (below_step Ub hb); clear hb ho11) | (refine Gl 15 #[.slice A0 l0.length c0] Try.func70 ?_; (with_reducible refine (impl_sums.calls k _ _ l0 t306 _ (Cm (Kd.C_below HR0.out HB.out)) HC0.out A8.out).mono ?_); rintro e w12 ⟨v307, rfl, ho0, hb⟩; refine ⟨_, rfl, ?_⟩; replace HO305 := Aside0.mk (Kd.R_below (Rm HO305.out) hb); have HO308 := Aside0.mk (Kd.R_lower ho0 (below_size Ub)); replace HB := Aside0.mk (below_step Ub hb); clear hb ho0; obtain ⟨Ao13, co13, eo13⟩ := Kd.R_slice HO308.out; subst eo13))
   go_loopg [17] k (fun kq v17 w' => ∃ (x4_1 : List Bool) (x17_1 : Int), v17 = .int .i64 x17_1 ∧ Aside0 (impl_GapsOf.l0 kq x4_1 t306 (t306.length : Int) x17_1 = some (r1, r2)) ∧ Aside0 (kq ≤ k) ∧ Aside0 (Kd.R Kd.bool 4 w' w.heap.size (fun _ => True) v304 x4_1) ∧ Aside0 (Kd.R (Kd.int .i64) 3 w' w.heap.size (fun _ => True) (.slice Ao13 t306.length co13) t306) ∧ Aside0 (Below w.heap.size w w'))
   case atStart => exact ⟨(y303), (0), Rs, H', ⟨Nat.le_refl _⟩, ⟨Rm HO305.out⟩, ⟨Rm HO308.out⟩, ⟨Ub⟩⟩
   case round =>
    clear H'
    try clear c6
    try clear c6b0
    try clear c6b1
    try clear c7
    try clear c7b0
    try clear c7b1
    obtain ⟨x4_1, x17_1, rfl, HA, HK1, HO_4, HO_15, HB⟩ := hrel
    cases gk with
    | zero => exact absurd HA.out (by simp [impl_GapsOf.l0])
    | succ k1 =>
     have H := HA.out
     clear HA
     simp only [impl_GapsOf.l0] at H
     replace H := Ic H; rcases H with ⟨c14, H⟩ | ⟨c14, H⟩
     · have c14b0 := decide_eq_true c14
       clear c14
       replace H := Ip H; obtain ⟨c15, H⟩ := H
       have c15b0 := decide_eq_true c15
       clear c15
       replace H := Ip H; obtain ⟨c16, H⟩ := H
       have c16b0 := decide_eq_true c16
       clear c16
       replace H := Ip H; obtain ⟨c17, H⟩ := H
       have c17b0 := decide_eq_true c17
       clear c17
       replace H := Ip H; obtain ⟨c18, H⟩ := H
       have c18b0 := decide_eq_true c18
       clear c18
       obtain ⟨y310, hy310⟩ : ∃ y_ : List Bool, y_ = (x4_1.set ((rd t306 x17_1) : Int).toNat true) := ⟨_, rfl⟩
       replace H : (impl_GapsOf.l0 k1 y310 t306 (t306.length : Int) (wrap64 (x17_1 + 1))) = some (r1, r2) := by first | (rw [hy310]; with_reducible exact H) | (have H2_ := (Option.bind_some _ _).symm.trans H; rw [hy310]; with_reducible exact H2_) | (have H2_ := (Option.bind_some _ _).symm.trans H; with_reducible exact H2_) | with_reducible exact H | (rw [hy310]; exact H) | exact H
       have Ny310 := Aside0.mk hy310
       clear hy310
       have H' := Aside0.mk H
       clear H
       obtain ⟨p309, q309, ad309, e309, hx309_0⟩ := Ai (Kd.R_reads' HO_15.out).2.2 x17_1
       cases e309
       have p19 : 0 ≤ ((rd t306 x17_1) : Int) := Oa
       have q19 : ((rd t306 x17_1) : Int) < ((x4_1.length : Int) : Int) := Oa
       obtain ⟨go19, co19, eo19, gb19, gl19, cl19, HG19⟩ := Kd.R_form HO_4.out (by omega)
       (first | cases eo19 | (injection eo19 with ea_ en_ ec_; (first | subst ea_ | (injection ea_ with ea_; subst ea_)); subst ec_; clear en_))
       have GB19 := Aside0.mk gb19
       have GG19 := Aside0.mk HG19
       clear gb19 gl19 HG19
       obtain ⟨hx19_0, hf19_0⟩ := Kd.R_celln false HO_4.out ((rd t306 x17_1) : Int) p19 q19
       replace p19 := eq_true p19
       replace q19 := eq_true q19
       have HP20 := Kd.R_putg HO_4.out ((rd t306 x17_1) : Int) true
       go_wp2_with (first | ((with_reducible refine gate_store (t := 4) (p := 23) rfl ?_); refine store_event (t := 4) (p := 23) (v := ?vo_w21) (w1 := (wr.setCell ⟨go19, ((rd t306 x17_1) : Int).toNat, none⟩ (.bool true))) ?hg ?ho ?hn ?hr ?_; (case ho => rfl); (case hg => rfl); (case hn => rfl); (case hr => first | (go_simp; done) | (go_simp; rfl)); intro w21 hw; have hg : wr.grownBy w21 (some go19) := (by rw [hw]; exact HP20.2); have hp_ : Kd.R Kd.bool 4 w21 w.heap.size (fun _ => True) (.slice (some ⟨go19, 0, none⟩) x4_1.length co19) y310 := (by rw [hw, Ny310.out]; exact HP20.1); clear HP20; replace HO_15 := Aside0.mk (Kd.R_over' (v := (.slice (some ⟨go19, 0, none⟩) x4_1.length co19)) (Rm HO_15.out) (Kd.R_typed HO_4.out) (by decide) hg); replace HO_4 := Aside0.mk (hp_); replace HB := Aside0.mk ((by rw [hw]; exact below_set (HB.out) GB19.out : Below w.heap.size w w21)); clear hg hw hp_))
       go_roundg k1
       case measure => have := HK1.out; omega
       case rel => exact ⟨(y310), (wrap64 (x17_1 + 1)), Rs, H', ⟨by have := HK1.out; omega⟩, ⟨Rm HO_4.out⟩, ⟨Rm HO_15.out⟩, ⟨Ub⟩⟩
     have c14b0 := decide_eq_false c14
     clear c14
     replace H := Option.bind_eq_some_iff.mp H
     obtain ⟨⟨t311, t312⟩, A220, H⟩ := H
     have A22 := Aside0.mk A220
     clear A220
     simp only [Option.some.injEq, Prod.mk.injEq] at H
     obtain ⟨rfl, rfl⟩ := H
     obtain ⟨Ao23, co23, eo23⟩ := Kd.R_slice HO_4.out
     subst eo23
     go_wp2_with (first | (refine Gl 26 #[.slice Ao23 x4_1.length co23] Try.func76 ?_; (with_reducible refine (impl_missing.calls k1 _ _ x4_1 t311 t312 _ (Cm (Kd.R_reads' HO_4.out).2.2) ((Kd.R_reads' HO_4.out).2.1) A22.out).mono ?_); rintro e w24 ⟨v313, rfl, ho0, hb⟩; refine ⟨_, rfl, ?_⟩; replace HO_4 := Aside0.mk (Kd.R_below (Rm HO_4.out) hb); have HO314 := Aside0.mk (Kd.R_lower (Kd.R_new' ho0 (Kd.R_lt (Rm HO_15.out))) (below_size Ub)); replace HO_15 := Aside0.mk (Kd.R_elder' (Rm HO_15.out) (Kd.R_base ho0) hb); replace HB := Aside0.mk (below_step Ub hb); clear hb ho0))
     go_ret2
     exact ⟨_, by first | rfl | (simp [errW_none, errW_some] <;> rfl) | (simp only [← hji5]; first | rfl | (simp [errW_none, errW_some] <;> rfl)) | (simp [*, errW_none, errW_some] <;> rfl), by (with_reducible repeat (first | apply Kd.R_alloc | apply Kd.R_drewN | apply Kd.R_drew)); exact Kd.R_mono HO314.out (fun _ hk => trivial), Ub⟩
 simp only [Option.some.injEq, Prod.mk.injEq] at H
 obtain ⟨rfl, rfl⟩ := H
 go_enter Try.func31, Try.ntmps31
 go_wp2_with (first | (refine Gl 8 #[.slice A0 l0.length c0] Try.func37 ?_; (with_reducible refine (impl_ArePieces.calls k _ _ l0 false _ (Cm HR0.out) HC0.out A2.out).mono ?_); rintro e w25 ⟨rfl, hb⟩; refine ⟨_, rfl, ?_⟩; replace HB := Aside0.mk (below_step Ub hb); clear hb))
 go_ret2
 exact ⟨_, Re, Nl, Ub⟩

end Go.Proofs.Ytkbllhlmcfjcdaa.PFnSumsMade
