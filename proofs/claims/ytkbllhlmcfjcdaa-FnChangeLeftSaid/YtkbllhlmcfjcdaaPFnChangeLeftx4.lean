-- MADE FOR THIS CLAIM by wip/xp/xprint.py (with the kit's print; some functions' contracts proved by hand)
import Derived.Test.YtkbllhlmcfjcdaaPFnChangeLeftx0
set_option maxHeartbeats 8000000
set_option maxRecDepth 100000
namespace Go.Proofs.Ytkbllhlmcfjcdaa.PFnChangeLeft
open Go.RowKit Go.Proofs.YtkbllhlmcfjcdaaW.PrintWords Go.Proofs.YtkbllhlmcfjcdaaW.PrintLast Go.Proofs.YtkbllhlmcfjcdaaW.PrintMore Go.Proofs.Ytkbllhlmcfjcdaa.Xmv
attribute [local go_sem] max2_int min2_int max_two min_two max_three min_three max_four min_four   -- for this text's walks alone
set_option linter.unusedVariables false
set_option linter.unusedSimpArgs false

/-! ### spec_l1In: function 97 -/
def spec_l1In.f (a0 : Int) (a1 : Int) (a2 : Int) : Option (Bool) := if a0 ≥ a1 then (some (decide (a0 ≤ a2))) else (some false)
theorem spec_l1In.calls (a0 : Int) (a1 : Int) (a2 : Int) (r : Bool) (w : World) (h : spec_l1In.f a0 a1 a2 = some r) :
 Calls Try.prog 97 #[.int .i64 a0, .int .i64 a1, .int .i64 a2] w fun e w' => e = .returned (.bool r) ∧ Drawn0 w w' := by
 have H := h; unfold spec_l1In.f at H
 clear h
 replace H := Ic H; rcases H with ⟨c4, H⟩ | ⟨c4, H⟩
 · have c4b0 : decide (a1 ≤ a0) = true := decide_eq_true c4
   clear c4
   obtain rfl := Option.some.inj H
   go_enter Try.func97, Try.ntmps97
   go_wp2
   go_ret
   exact ⟨Rs, Dr⟩
 have c4b0 : decide (a1 ≤ a0) = false := decide_eq_false c4
 clear c4
 obtain rfl := Option.some.inj H
 go_enter Try.func97, Try.ntmps97
 go_wp2
 go_ret
 exact ⟨Rs, Dr⟩

/-! ### spec_l1Rising: function 98 -/
def spec_l1Rising.l0 : Nat → List Int → Int → Int → List Int → Int → Int → Option (Bool)
 | 0, _, _, _, _, _, _ => none
 | k + 1, x0, x1, x2, x9, x10, x11 => if x11 < x10 then (if 0 ≤ x11 then (if x11 < (x9.length : Int) then ((spec_l1In.f (rd x9 x11) x1 x2).bind fun t319 => (if t319 = true then (if x11 > 0 then (if 0 ≤ (wrap64 (x11 - 1)) then (if (wrap64 (x11 - 1)) < (x0.length : Int) then (if (rd x0 (wrap64 (x11 - 1))) ≥ (rd x9 x11) then (some false) else (spec_l1Rising.l0 k x0 x1 x2 x9 x10 (wrap64 (x11 + 1)))) else (none)) else (none)) else (spec_l1Rising.l0 k x0 x1 x2 x9 x10 (wrap64 (x11 + 1)))) else (some false))) else (none)) else (none)) else (some true)
def spec_l1Rising.f (k : Nat) (l0 : List Int) (a1 : Int) (a2 : Int) : Option (Bool) := spec_l1Rising.l0 k l0 a1 a2 l0 (l0.length : Int) 0
theorem spec_l1Rising.calls (k : Nat) (A0 : Option Addr) (c0 : Nat) (l0 : List Int) (a1 : Int) (a2 : Int) (r : Bool) (w : World) (hr0 : Kd.C (Kd.int .i64) w A0 l0.length l0) (hc0 : l0.length ≤ c0) (h : spec_l1Rising.f k l0 a1 a2 = some r) :
 Calls Try.prog 98 #[.slice A0 l0.length c0, .int .i64 a1, .int .i64 a2] w fun e w' => e = .returned (.bool r) ∧ Drawn0 w w' := by
 have HR0 := Aside0.mk hr0
 have HC0 := Aside0.mk hc0
 clear hr0 hc0
 have H := h; unfold spec_l1Rising.f at H
 clear h
 have H' := Aside0.mk H
 clear H
 go_enter Try.func98, Try.ntmps98
 go_wp2
 go_loopg [11] k (fun kq v11 w' => ∃ (x11_1 : Int), v11 = .int .i64 x11_1 ∧ Aside0 (spec_l1Rising.l0 kq l0 a1 a2 l0 (l0.length : Int) x11_1 = some r) ∧ Aside0 (kq ≤ k) ∧ Drawn0 w w')
 case atStart => exact ⟨(0), Rs, H', ⟨Nat.le_refl _⟩, Dr⟩
 case round =>
  clear H'
  obtain ⟨x11_1, rfl, HA, HK1, ⟨m1, rfl⟩⟩ := hrel
  cases gk with
  | zero => exact absurd HA.out (by simp [spec_l1Rising.l0])
  | succ k1 =>
   have H := HA.out
   clear HA
   simp only [spec_l1Rising.l0] at H
   replace H := Ic H; rcases H with ⟨c4, H⟩ | ⟨c4, H⟩
   · have c4b0 := decide_eq_true c4
     clear c4
     replace H := Ip H; obtain ⟨c5, H⟩ := H
     have c5b0 := decide_eq_true c5
     clear c5
     replace H := Ip H; obtain ⟨c6, H⟩ := H
     have c6b0 := decide_eq_true c6
     clear c6
     replace H := Option.bind_eq_some_iff.mp H
     obtain ⟨t319, A70, H⟩ := H
     have A7 := Aside0.mk A70
     clear A70
     replace H := Iw H; rcases H with ⟨rfl, H⟩ | ⟨rfl, H⟩
     · replace H := Ic H; rcases H with ⟨c9, H⟩ | ⟨c9, H⟩
       · have c9b0 : decide (0 < x11_1) = true := decide_eq_true c9
         clear c9
         obtain ⟨ji10, hji10⟩ : ∃ j_ : Int, (wrap64 (x11_1 - 1)) = j_ := ⟨_, rfl⟩
         replace H : (if 0 ≤ (ji10) then (if (ji10) < (l0.length : Int) then (if (rd l0 (ji10)) ≥ (rd l0 x11_1) then (some false) else (spec_l1Rising.l0 k1 l0 a1 a2 l0 (l0.length : Int) (wrap64 (x11_1 + 1)))) else (none)) else (none)) = some r := by first | (rw [hji10] at H; exact H) | (simp only [hji10] at H ⊢; exact H)
         (try rw [hji10] at A7)
         have hji10w : (IntKind.i64.wrap (x11_1 - 1)) = ji10 := (i64_w _).trans hji10
         replace H := Ip H; obtain ⟨c11, H⟩ := H
         have c11b0 := decide_eq_true c11
         clear c11
         replace H := Ip H; obtain ⟨c12, H⟩ := H
         have c12b0 := decide_eq_true c12
         clear c12
         replace H := Ic H; rcases H with ⟨c13, H⟩ | ⟨c13, H⟩
         · have c13b0 : decide ((rd l0 x11_1) ≤ (rd l0 (ji10))) = true := decide_eq_true c13
           clear c13
           obtain rfl := Option.some.inj H
           obtain ⟨p318, q318, ad318, e318, hx318_0⟩ := Ai HR0.out x11_1
           cases e318
           go_wp2_with (first | (refine Gl 19 #[.int .i64 (rd l0 x11_1), .int .i64 a1, .int .i64 a2] Try.func97 ?_; (with_reducible refine (spec_l1In.calls (rd l0 x11_1) a1 a2 true _ A7.out).mono ?_); rintro e w' ⟨rfl, ⟨nd, rfl⟩⟩; refine ⟨_, rfl, ?_⟩; have p320 : 0 ≤ ((ji10) : Int) := Oa; have q320 : (ji10) < (l0.length : Int) := Oa; obtain ⟨ad320, e320, hx320_0⟩ := Kd.at_int HR0.out (ji10) p320 q320; obtain rfl : ad318 = ad320 := (by injection e320); replace p320 := eq_true p320; replace q320 := eq_true q320))
           go_ret
           exact ⟨by first | rfl | (simp; done) | (simp only [← hji10] <;> (first | rfl | simp)) | (simp [*]; done), Dr⟩
         have c13b0 : decide ((rd l0 x11_1) ≤ (rd l0 (ji10))) = false := decide_eq_false c13
         clear c13
         have H' := Aside0.mk H
         clear H
         obtain ⟨p318, q318, ad318, e318, hx318_0⟩ := Ai HR0.out x11_1
         cases e318
         go_wp2_with (first | (refine Gl 19 #[.int .i64 (rd l0 x11_1), .int .i64 a1, .int .i64 a2] Try.func97 ?_; (with_reducible refine (spec_l1In.calls (rd l0 x11_1) a1 a2 true _ A7.out).mono ?_); rintro e w' ⟨rfl, ⟨nd, rfl⟩⟩; refine ⟨_, rfl, ?_⟩; have p320 : 0 ≤ ((ji10) : Int) := Oa; have q320 : (ji10) < (l0.length : Int) := Oa; obtain ⟨ad320, e320, hx320_0⟩ := Kd.at_int HR0.out (ji10) p320 q320; obtain rfl : ad318 = ad320 := (by injection e320); replace p320 := eq_true p320; replace q320 := eq_true q320))
         go_roundg k1
         case measure => have := HK1.out; omega
         case rel => exact ⟨(wrap64 (x11_1 + 1)), Rs, H', ⟨by have := HK1.out; omega⟩, Dr⟩
       have c9b0 : decide (0 < x11_1) = false := decide_eq_false c9
       clear c9
       have H' := Aside0.mk H
       clear H
       obtain ⟨p318, q318, ad318, e318, hx318_0⟩ := Ai HR0.out x11_1
       cases e318
       go_wp2_with (first | (refine Gl 19 #[.int .i64 (rd l0 x11_1), .int .i64 a1, .int .i64 a2] Try.func97 ?_; (with_reducible refine (spec_l1In.calls (rd l0 x11_1) a1 a2 true _ A7.out).mono ?_); rintro e w' ⟨rfl, ⟨nd, rfl⟩⟩; refine ⟨_, rfl, ?_⟩))
       go_roundg k1
       case measure => have := HK1.out; omega
       case rel => exact ⟨(wrap64 (x11_1 + 1)), Rs, H', ⟨by have := HK1.out; omega⟩, Dr⟩
     obtain rfl := Option.some.inj H
     obtain ⟨p318, q318, ad318, e318, hx318_0⟩ := Ai HR0.out x11_1
     cases e318
     go_wp2_with (first | (refine Gl 19 #[.int .i64 (rd l0 x11_1), .int .i64 a1, .int .i64 a2] Try.func97 ?_; (with_reducible refine (spec_l1In.calls (rd l0 x11_1) a1 a2 false _ A7.out).mono ?_); rintro e w' ⟨rfl, ⟨nd, rfl⟩⟩; refine ⟨_, rfl, ?_⟩))
     go_ret
     exact ⟨Rs, Dr⟩
   have c4b0 := decide_eq_false c4
   clear c4
   obtain rfl := Option.some.inj H
   go_wp2
   go_ret
   exact ⟨Rs, Dr⟩

/-! ### spec_cnGood: function 60 -/
def spec_cnGood.f (k : Nat) (l0 : List Int) : Option (Bool) := (spec_l1In.f (l0.length : Int) 1 8).bind fun t321 => (if t321 = true then ((spec_l1Rising.f k l0 1 1000).bind fun t322 => (some t322)) else (some false))
theorem spec_cnGood.calls (k : Nat) (A0 : Option Addr) (c0 : Nat) (l0 : List Int) (r : Bool) (w : World) (hr0 : Kd.C (Kd.int .i64) w A0 l0.length l0) (hc0 : l0.length ≤ c0) (h : spec_cnGood.f k l0 = some r) :
 Calls Try.prog 60 #[.slice A0 l0.length c0] w fun e w' => e = .returned (.bool r) ∧ Drawn0 w w' := by
 have HR0 := Aside0.mk hr0
 have HC0 := Aside0.mk hc0
 clear hr0 hc0
 have H := h; unfold spec_cnGood.f at H
 clear h
 replace H := Option.bind_eq_some_iff.mp H
 obtain ⟨t321, A20, H⟩ := H
 have A2 := Aside0.mk A20
 clear A20
 replace H := Iw H; rcases H with ⟨rfl, H⟩ | ⟨rfl, H⟩
 · replace H := Option.bind_eq_some_iff.mp H
   obtain ⟨t322, A40, H⟩ := H
   have A4 := Aside0.mk A40
   clear A40
   obtain rfl := Option.some.inj H
   go_enter Try.func60, Try.ntmps60
   go_wp2_with (first | (refine Gl 5 #[.int .i64 (l0.length : Int), .int .i64 1, .int .i64 8] Try.func97 ?_; (with_reducible refine (spec_l1In.calls (l0.length : Int) 1 8 true _ A2.out).mono ?_); rintro e w' ⟨rfl, ⟨nd, rfl⟩⟩; refine ⟨_, rfl, ?_⟩) | (go_at_call 98; (with_reducible refine (spec_l1Rising.calls k _ _ l0 1 1000 t322 _ (Cm HR0.out) HC0.out A4.out).mono ?_); rintro e w' ⟨rfl, ⟨nd, rfl⟩⟩))
   go_ret
   exact ⟨Rs, Dr⟩
 obtain rfl := Option.some.inj H
 go_enter Try.func60, Try.ntmps60
 go_wp2_with (first | (refine Gl 5 #[.int .i64 (l0.length : Int), .int .i64 1, .int .i64 8] Try.func97 ?_; (with_reducible refine (spec_l1In.calls (l0.length : Int) 1 8 false _ A2.out).mono ?_); rintro e w' ⟨rfl, ⟨nd, rfl⟩⟩; refine ⟨_, rfl, ?_⟩))
 go_ret
 exact ⟨Rs, Dr⟩

/-! ### spec_cnAsked: function 94 -/
def spec_cnAsked.f (k : Nat) (l0 : List Int) (a1 : Int) : Option (Bool) := (spec_cnGood.f k l0).bind fun t323 => (if t323 = true then ((spec_l1In.f a1 0 20000).bind fun t324 => (some t324)) else (some false))
theorem spec_cnAsked.calls (k : Nat) (A0 : Option Addr) (c0 : Nat) (l0 : List Int) (a1 : Int) (r : Bool) (w : World) (hr0 : Kd.C (Kd.int .i64) w A0 l0.length l0) (hc0 : l0.length ≤ c0) (h : spec_cnAsked.f k l0 a1 = some r) :
 Calls Try.prog 94 #[.slice A0 l0.length c0, .int .i64 a1] w fun e w' => e = .returned (.bool r) ∧ Drawn0 w w' := by
 have HR0 := Aside0.mk hr0
 have HC0 := Aside0.mk hc0
 clear hr0 hc0
 have H := h; unfold spec_cnAsked.f at H
 clear h
 replace H := Option.bind_eq_some_iff.mp H
 obtain ⟨t323, A30, H⟩ := H
 have A3 := Aside0.mk A30
 clear A30
 replace H := Iw H; rcases H with ⟨rfl, H⟩ | ⟨rfl, H⟩
 · replace H := Option.bind_eq_some_iff.mp H
   obtain ⟨t324, A50, H⟩ := H
   have A5 := Aside0.mk A50
   clear A50
   obtain rfl := Option.some.inj H
   go_enter Try.func94, Try.ntmps94
   go_wp2_with (first | (refine Gl 6 #[.slice A0 l0.length c0] Try.func60 ?_; (with_reducible refine (spec_cnGood.calls k _ _ l0 true _ (Cm HR0.out) HC0.out A3.out).mono ?_); rintro e w' ⟨rfl, ⟨nd, rfl⟩⟩; refine ⟨_, rfl, ?_⟩) | (go_at_call 97; (with_reducible refine (spec_l1In.calls a1 0 20000 t324 _ A5.out).mono ?_); rintro e w' ⟨rfl, ⟨nd, rfl⟩⟩))
   go_ret
   exact ⟨Rs, Dr⟩
 obtain rfl := Option.some.inj H
 go_enter Try.func94, Try.ntmps94
 go_wp2_with (first | (refine Gl 6 #[.slice A0 l0.length c0] Try.func60 ?_; (with_reducible refine (spec_cnGood.calls k _ _ l0 false _ (Cm HR0.out) HC0.out A3.out).mono ?_); rintro e w' ⟨rfl, ⟨nd, rfl⟩⟩; refine ⟨_, rfl, ?_⟩))
 go_ret
 exact ⟨Rs, Dr⟩

/-! ### spec_l1All: function 95 -/
def spec_l1All.l0 : Nat → Int → Int → List Int → Int → Int → Option (Bool)
 | 0, _, _, _, _, _ => none
 | k + 1, x1, x2, x9, x10, x11 => if x11 < x10 then (if 0 ≤ x11 then (if x11 < (x9.length : Int) then ((spec_l1In.f (rd x9 x11) x1 x2).bind fun t326 => (if t326 = true then (spec_l1All.l0 k x1 x2 x9 x10 (wrap64 (x11 + 1))) else (some false))) else (none)) else (none)) else (some true)
def spec_l1All.f (k : Nat) (l0 : List Int) (a1 : Int) (a2 : Int) : Option (Bool) := spec_l1All.l0 k a1 a2 l0 (l0.length : Int) 0
theorem spec_l1All.calls (k : Nat) (A0 : Option Addr) (c0 : Nat) (l0 : List Int) (a1 : Int) (a2 : Int) (r : Bool) (w : World) (hr0 : Kd.C (Kd.int .i64) w A0 l0.length l0) (hc0 : l0.length ≤ c0) (h : spec_l1All.f k l0 a1 a2 = some r) :
 Calls Try.prog 95 #[.slice A0 l0.length c0, .int .i64 a1, .int .i64 a2] w fun e w' => e = .returned (.bool r) ∧ Drawn0 w w' := by
 have HR0 := Aside0.mk hr0
 have HC0 := Aside0.mk hc0
 clear hr0 hc0
 have H := h; unfold spec_l1All.f at H
 clear h
 have H' := Aside0.mk H
 clear H
 go_enter Try.func95, Try.ntmps95
 go_wp2
 go_loopg [11] k (fun kq v11 w' => ∃ (x11_1 : Int), v11 = .int .i64 x11_1 ∧ Aside0 (spec_l1All.l0 kq a1 a2 l0 (l0.length : Int) x11_1 = some r) ∧ Aside0 (kq ≤ k) ∧ Drawn0 w w')
 case atStart => exact ⟨(0), Rs, H', ⟨Nat.le_refl _⟩, Dr⟩
 case round =>
  clear H'
  obtain ⟨x11_1, rfl, HA, HK1, ⟨m1, rfl⟩⟩ := hrel
  cases gk with
  | zero => exact absurd HA.out (by simp [spec_l1All.l0])
  | succ k1 =>
   have H := HA.out
   clear HA
   simp only [spec_l1All.l0] at H
   replace H := Ic H; rcases H with ⟨c4, H⟩ | ⟨c4, H⟩
   · have c4b0 := decide_eq_true c4
     clear c4
     replace H := Ip H; obtain ⟨c5, H⟩ := H
     have c5b0 := decide_eq_true c5
     clear c5
     replace H := Ip H; obtain ⟨c6, H⟩ := H
     have c6b0 := decide_eq_true c6
     clear c6
     replace H := Option.bind_eq_some_iff.mp H
     obtain ⟨t326, A70, H⟩ := H
     have A7 := Aside0.mk A70
     clear A70
     replace H := Iw H; rcases H with ⟨rfl, H⟩ | ⟨rfl, H⟩
     · have H' := Aside0.mk H
       clear H
       obtain ⟨p325, q325, ad325, e325, hx325_0⟩ := Ai HR0.out x11_1
       cases e325
       go_wp2_with (first | (refine Gl 18 #[.int .i64 (rd l0 x11_1), .int .i64 a1, .int .i64 a2] Try.func97 ?_; (with_reducible refine (spec_l1In.calls (rd l0 x11_1) a1 a2 true _ A7.out).mono ?_); rintro e w' ⟨rfl, ⟨nd, rfl⟩⟩; refine ⟨_, rfl, ?_⟩))
       go_roundg k1
       case measure => have := HK1.out; omega
       case rel => exact ⟨(wrap64 (x11_1 + 1)), Rs, H', ⟨by have := HK1.out; omega⟩, Dr⟩
     obtain rfl := Option.some.inj H
     obtain ⟨p325, q325, ad325, e325, hx325_0⟩ := Ai HR0.out x11_1
     cases e325
     go_wp2_with (first | (refine Gl 18 #[.int .i64 (rd l0 x11_1), .int .i64 a1, .int .i64 a2] Try.func97 ?_; (with_reducible refine (spec_l1In.calls (rd l0 x11_1) a1 a2 false _ A7.out).mono ?_); rintro e w' ⟨rfl, ⟨nd, rfl⟩⟩; refine ⟨_, rfl, ?_⟩))
     go_ret
     exact ⟨Rs, Dr⟩
   have c4b0 := decide_eq_false c4
   clear c4
   obtain rfl := Option.some.inj H
   go_wp2
   go_ret
   exact ⟨Rs, Dr⟩

/-! ### spec_cnPurse: function 53 -/
def spec_cnPurse.f (k : Nat) (l0 : List Int) (l1 : List Int) (a2 : Int) : Option (Bool) := (spec_cnAsked.f k l0 a2).bind fun t327 => (if t327 = true then (if (l1.length : Int) = (l0.length : Int) then ((spec_l1All.f k l1 0 1000).bind fun t328 => (some t328)) else (some false)) else (some false))
theorem spec_cnPurse.calls (k : Nat) (A0 : Option Addr) (c0 : Nat) (l0 : List Int) (A1 : Option Addr) (c1 : Nat) (l1 : List Int) (a2 : Int) (r : Bool) (w : World) (hr0 : Kd.C (Kd.int .i64) w A0 l0.length l0) (hc0 : l0.length ≤ c0) (hr1 : Kd.C (Kd.int .i64) w A1 l1.length l1) (hc1 : l1.length ≤ c1) (h : spec_cnPurse.f k l0 l1 a2 = some r) :
 Calls Try.prog 53 #[.slice A0 l0.length c0, .slice A1 l1.length c1, .int .i64 a2] w fun e w' => e = .returned (.bool r) ∧ Drawn0 w w' := by
 have HR0 := Aside0.mk hr0
 have HC0 := Aside0.mk hc0
 clear hr0 hc0
 have HR1 := Aside0.mk hr1
 have HC1 := Aside0.mk hc1
 clear hr1 hc1
 have H := h; unfold spec_cnPurse.f at H
 clear h
 replace H := Option.bind_eq_some_iff.mp H
 obtain ⟨t327, A40, H⟩ := H
 have A4 := Aside0.mk A40
 clear A40
 replace H := Iw H; rcases H with ⟨rfl, H⟩ | ⟨rfl, H⟩
 · replace H := Ic H; rcases H with ⟨c6, H⟩ | ⟨c6, H⟩
   · have c6b0 : ((l1.length : Int) == (l0.length : Int)) = true := beq_iff_eq.mpr c6
     have c6b1 := bne_eq_false_iff_eq.mpr c6
     have c6b2 : (l1.length == l0.length) = true := by first | simpa using c6 | (simp at c6 ⊢; omega)
     clear c6
     replace H := Option.bind_eq_some_iff.mp H
     obtain ⟨t328, A70, H⟩ := H
     have A7 := Aside0.mk A70
     clear A70
     obtain rfl := Option.some.inj H
     go_enter Try.func53, Try.ntmps53
     go_wp2_with (first | (refine Gl 9 #[.slice A0 l0.length c0, .int .i64 a2] Try.func94 ?_; (with_reducible refine (spec_cnAsked.calls k _ _ l0 a2 true _ (Cm HR0.out) HC0.out A4.out).mono ?_); rintro e w' ⟨rfl, ⟨nd, rfl⟩⟩; refine ⟨_, rfl, ?_⟩) | (go_at_call 95; (with_reducible refine (spec_l1All.calls k _ _ l1 0 1000 t328 _ (Cm HR1.out) HC1.out A7.out).mono ?_); rintro e w' ⟨rfl, ⟨nd, rfl⟩⟩))
     go_ret
     exact ⟨Rs, Dr⟩
   have c6b0 : ((l1.length : Int) == (l0.length : Int)) = false := beq_eq_false_iff_ne.mpr c6
   have c6b1 := bne_iff_ne.mpr c6
   have c6b2 : (l1.length == l0.length) = false := by first | simpa using c6 | (simp at c6 ⊢; omega)
   obtain rfl := Option.some.inj H
   go_enter Try.func53, Try.ntmps53
   go_wp2_with (first | (refine Gl 9 #[.slice A0 l0.length c0, .int .i64 a2] Try.func94 ?_; (with_reducible refine (spec_cnAsked.calls k _ _ l0 a2 true _ (Cm HR0.out) HC0.out A4.out).mono ?_); rintro e w' ⟨rfl, ⟨nd, rfl⟩⟩; refine ⟨_, rfl, ?_⟩))
   go_ret
   exact ⟨Rs, Dr⟩
 obtain rfl := Option.some.inj H
 go_enter Try.func53, Try.ntmps53
 go_wp2_with (first | (refine Gl 9 #[.slice A0 l0.length c0, .int .i64 a2] Try.func94 ?_; (with_reducible refine (spec_cnAsked.calls k _ _ l0 a2 false _ (Cm HR0.out) HC0.out A4.out).mono ?_); rintro e w' ⟨rfl, ⟨nd, rfl⟩⟩; refine ⟨_, rfl, ?_⟩))
 go_ret
 exact ⟨Rs, Dr⟩

end Go.Proofs.Ytkbllhlmcfjcdaa.PFnChangeLeft
