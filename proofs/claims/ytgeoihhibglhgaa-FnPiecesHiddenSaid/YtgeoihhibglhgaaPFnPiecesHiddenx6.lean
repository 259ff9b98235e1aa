-- printed by wip/xp
import Derived.Test.YtgeoihhibglhgaaPFnPiecesHiddenx0
import Derived.Test.YtgeoihhibglhgaaPFnPiecesHiddenx5
set_option maxHeartbeats 8000000
set_option maxRecDepth 100000
namespace Go.Proofs.Ytgeoihhibglhgaa.PFnPiecesHidden
open Go.RowKit Go.Proofs.YtgeoihhibglhgaaW.PrintWords Go.Proofs.YtgeoihhibglhgaaW.PrintLast Go.Proofs.YtgeoihhibglhgaaW.PrintMore Go.Proofs.Ytgeoihhibglhgaa.Xmv
attribute [local go_sem] max2_int min2_int max_two min_two max_three min_three max_four min_four
set_option linter.unusedVariables false
set_option linter.unusedSimpArgs false

/-! ### spec_l1All: function 266 -/
def spec_l1All.l0 : Nat → Int → Int → List Int → Int → Int → Option (Bool)
 | 0, _, _, _, _, _ => none
 | k + 1, x1, x2, x9, x10, x11 => if x11 < x10 then (if 0 ≤ x11 then (if x11 < (x9.length : Int) then ((spec_l1In.f (rd x9 x11) x1 x2).bind fun t248 => (if t248 = true then (spec_l1All.l0 k x1 x2 x9 x10 (wrap64 (x11 + 1))) else (some false))) else (none)) else (none)) else (some true)
def spec_l1All.f (k : Nat) (l0 : List Int) (a1 : Int) (a2 : Int) : Option (Bool) := spec_l1All.l0 k a1 a2 l0 (l0.length : Int) 0
theorem spec_l1All.calls (k : Nat) (A0 : Option Addr) (c0 : Nat) (l0 : List Int) (a1 : Int) (a2 : Int) (r : Bool) (w : World) (hr0 : Kd.C (Kd.int .i64) w A0 l0.length l0) (hc0 : l0.length ≤ c0) (h : spec_l1All.f k l0 a1 a2 = some r) :
 Calls Try.prog 266 #[.slice A0 l0.length c0, .int .i64 a1, .int .i64 a2] w fun e w' => e = .returned (.bool r) ∧ Drawn0 w w' := by
 have HR0 := jA hr0
 have HC0 := jA hc0
 clear hr0 hc0
 have H := h; unfold spec_l1All.f at H
 clear h
 have H' := jA H
 clear H
 go_enter Try.func266, Try.ntmps266
 go_wp2
 go_loopg [11] k (fun kq v11 w' => ∃ (x11_1 : Int), v11 = .int .i64 x11_1 ∧ Aside0 (spec_l1All.l0 kq a1 a2 l0 (l0.length : Int) x11_1 = some r) ∧ Aside0 (kq ≤ k) ∧ Drawn0 w w')
 case atStart => exact ⟨(0), Rs, H', ⟨jX _⟩, Dr⟩
 case round =>
  clear H'
  obtain ⟨x11_1, rfl, HA, HK1, ⟨m1, rfl⟩⟩ := hrel
  cases gk with
  | zero => exact absurd HA.out (by simp [spec_l1All.l0])
  | succ k1 =>
   have H := HA.out
   clear HA
   simp only [spec_l1All.l0] at H
   replace H := Ic H; rcases H with ⟨c4, H⟩ | ⟨c4, H⟩
   · have c4b0 := jK c4
     clear c4
     replace H := Ip H; obtain ⟨c5, H⟩ := H
     have c5b0 := jK c5
     clear c5
     replace H := Ip H; obtain ⟨c6, H⟩ := H
     have c6b0 := jK c6
     clear c6
     replace H := jD H
     obtain ⟨t248, A70, H⟩ := H
     have A7 := jA A70
     clear A70
     replace H := Iw H; rcases H with ⟨rfl, H⟩ | ⟨rfl, H⟩
     · have H' := jA H
       clear H
       obtain ⟨p247, q247, ad247, e247, hx247_0⟩ := Ai HR0.out x11_1
       cases e247
       go_wp2_with (first | (refine Gl 18 #[.int .i64 (rd l0 x11_1), .int .i64 a1, .int .i64 a2] Try.func193 ?_; (with_reducible refine (spec_l1In.calls (rd l0 x11_1) a1 a2 true _ A7.out).mono ?_); rintro e w' ⟨rfl, ⟨nd, rfl⟩⟩; refine ⟨_, rfl, ?_⟩))
       go_roundg k1
       case measure => have := HK1.out; omega
       case rel => exact ⟨(wrap64 (x11_1 + 1)), Rs, H', ⟨by have := HK1.out; omega⟩, Dr⟩
     obtain rfl := jM H
     obtain ⟨p247, q247, ad247, e247, hx247_0⟩ := Ai HR0.out x11_1
     cases e247
     go_wp2_with (first | (refine Gl 18 #[.int .i64 (rd l0 x11_1), .int .i64 a1, .int .i64 a2] Try.func193 ?_; (with_reducible refine (spec_l1In.calls (rd l0 x11_1) a1 a2 false _ A7.out).mono ?_); rintro e w' ⟨rfl, ⟨nd, rfl⟩⟩; refine ⟨_, rfl, ?_⟩))
     go_ret
     exact ⟨Rs, Dr⟩
   have c4b0 := jV c4
   clear c4
   obtain rfl := jM H
   go_wp2
   go_ret
   exact ⟨Rs, Dr⟩

/-! ### spec_piGood: function 197 -/
mutual
def spec_piGood.j0 : Nat → List Int → Bool → Option (Bool)
 | 0, _, _ => none
 | k + 1, x0, x11 => if x11 = true then (some false) else (spec_piGood.l0 k x0 1)
def spec_piGood.l0 : Nat → List Int → Int → Option (Bool)
 | 0, _, _ => none
 | k + 1, x0, x3 => if x3 < (x0.length : Int) then (if 0 ≤ (wrap64 (x3 - 1)) then (if (wrap64 (x3 - 1)) < (x0.length : Int) then (if 0 ≤ x3 then (if (rd x0 (wrap64 (x3 - 1))) > (rd x0 x3) then (some false) else (spec_piGood.l0 k x0 (wrap64 (x3 + 1)))) else (none)) else (none)) else (none)) else (some true)
end
def spec_piGood.f (k : Nat) (l0 : List Int) : Option (Bool) := if (l0.length : Int) > 20 then (spec_piGood.j0 k l0 true) else ((spec_l1All.f k l0 1 10000).bind fun t249 => (spec_piGood.j0 k l0 (!t249)))
theorem spec_piGood.calls (k : Nat) (A0 : Option Addr) (c0 : Nat) (l0 : List Int) (r : Bool) (w : World) (hr0 : Kd.C (Kd.int .i64) w A0 l0.length l0) (hc0 : l0.length ≤ c0) (h : spec_piGood.f k l0 = some r) :
 Calls Try.prog 197 #[.slice A0 l0.length c0] w fun e w' => e = .returned (.bool r) ∧ Drawn0 w w' := by
 have HR0 := jA hr0
 have HC0 := jA hc0
 clear hr0 hc0
 have H := h; unfold spec_piGood.f at H
 clear h
 have HC2 := jA H
 clear H
 go_enter Try.func197, Try.ntmps197
 go_upto_region 1 with (fail)
 repeat (go_quiet (fail); go_upto_region 1 with (fail))
 go_cut [11] (fun v11 wc => ∃ (kq : Nat) (x11_1 : Bool), v11 = .bool x11_1 ∧ Aside0 (spec_piGood.j0 kq l0 x11_1 = some r) ∧ Aside0 (kq ≤ k) ∧ Drawn0 w wc)
 case first =>
  have H := HC2.out
  clear HC2
  replace H := Ic H; rcases H with ⟨c3, H⟩ | ⟨c3, H⟩
  · have c3b0 : decide (20 < (l0.length : Int)) = true := jK c3
    have c3b1 : decide (20 < l0.length) = true := jK (by omega)
    clear c3
    (first | rw [c3b0] | (simp only [i64_w, i32_w]; rw [c3b0]) | skip)
    have H' := jA H
    clear H
    go_wp2
    repeat (go_quiet (fail); try go_wp2)
    go_meet
    case rel => exact ⟨_, (true), Rs, H', ⟨by first | omega | exact jX _⟩, Dr⟩
  have c3b0 : decide (20 < (l0.length : Int)) = false := jV c3
  have c3b1 : decide (20 < l0.length) = false := jV (by omega)
  clear c3
  (first | rw [c3b0] | (simp only [i64_w, i32_w]; rw [c3b0]) | skip)
  replace H := jD H
  obtain ⟨t249, A40, H⟩ := H
  have A4 := jA A40
  clear A40
  have H' := jA H
  clear H
  go_wp2_with (first | (go_at_call 266; (with_reducible refine (spec_l1All.calls k _ _ l0 1 10000 t249 _ (Cm HR0.out) HC0.out A4.out).mono ?_); rintro e w' ⟨rfl, ⟨nd, rfl⟩⟩; (try first | exact ⟨rfl, _, World.drewN_drewN _ _ _⟩ | exact ⟨rfl, _, Eq.trans (World.drewN_drewN _ _ _) (congrArg (World.drewN _) (Nat.add_assoc _ _ _))⟩)))
  repeat (go_quiet (first | (go_at_call 266; (with_reducible refine (spec_l1All.calls k _ _ l0 1 10000 t249 _ (Cm HR0.out) HC0.out A4.out).mono ?_); rintro e w' ⟨rfl, ⟨nd, rfl⟩⟩; (try first | exact ⟨rfl, _, World.drewN_drewN _ _ _⟩ | exact ⟨rfl, _, Eq.trans (World.drewN_drewN _ _ _) (congrArg (World.drewN _) (Nat.add_assoc _ _ _))⟩))); try go_wp2_with (first | (go_at_call 266; (with_reducible refine (spec_l1All.calls k _ _ l0 1 10000 t249 _ (Cm HR0.out) HC0.out A4.out).mono ?_); rintro e w' ⟨rfl, ⟨nd, rfl⟩⟩; (try first | exact ⟨rfl, _, World.drewN_drewN _ _ _⟩ | exact ⟨rfl, _, Eq.trans (World.drewN_drewN _ _ _) (congrArg (World.drewN _) (Nat.add_assoc _ _ _))⟩))))
  go_meet
  case rel => exact ⟨_, (!t249), Rs, H', ⟨by first | omega | exact jX _⟩, Dr⟩
 case rest =>
  clear HC2
  try clear c3
  try clear c3b0
  try clear c3b1
  obtain ⟨kq, x11_1, rfl, HA, HJ1, ⟨mc1, rfl⟩⟩ := hcut
  cases kq with
  | zero => exact absurd HA.out (by simp [spec_piGood.j0])
  | succ kj1 =>
   have H := HA.out
   clear HA
   simp only [spec_piGood.j0] at H
   by_cases c5 : x11_1 = true
   · subst c5
     have H1 : (some false) = some r := by rw [if_pos rfl] at H; exact H
     clear H
     have H := H1
     clear H1
     obtain rfl := jM H
     go_wp2
     repeat (go_quiet (fail); try go_wp2)
     go_ret
     exact ⟨Rs, Dr⟩
   replace c5 := Bool.eq_false_iff.mpr c5
   subst c5
   have H1 : (spec_piGood.l0 kj1 l0 1) = some r := by rw [if_neg (show ¬ (false = true) by decide)] at H; exact H
   clear H
   have H := H1
   clear H1
   have H' := jA H
   clear H
   go_wp2
   repeat (go_quiet (fail); try go_wp2)
   go_loopg [3] kj1 (fun kq v3 w' => ∃ (x3_2 : Int), v3 = .int .i64 x3_2 ∧ Aside0 (spec_piGood.l0 kq l0 x3_2 = some r) ∧ Aside0 (kq ≤ kj1) ∧ Drawn0 w w')
   case atStart => exact ⟨(1), Rs, H', ⟨jX _⟩, Dr⟩
   case round =>
    clear H'
    try clear c3
    try clear c3b0
    try clear c3b1
    try clear c5
    obtain ⟨x3_2, rfl, HA, HK2, ⟨m2, rfl⟩⟩ := hrel
    cases gk with
    | zero => exact absurd HA.out (by simp [spec_piGood.l0])
    | succ k2 =>
     have H := HA.out
     clear HA
     simp only [spec_piGood.l0] at H
     replace H := Ic H; rcases H with ⟨c6, H⟩ | ⟨c6, H⟩
     · have c6b0 := jK c6
       clear c6
       obtain ⟨ji7, hji7⟩ : ∃ j_ : Int, (wrap64 (x3_2 - 1)) = j_ := ⟨_, rfl⟩
       replace H : (if 0 ≤ (ji7) then (if (ji7) < (l0.length : Int) then (if 0 ≤ x3_2 then (if (rd l0 (ji7)) > (rd l0 x3_2) then (some false) else (spec_piGood.l0 k2 l0 (wrap64 (x3_2 + 1)))) else (none)) else (none)) else (none)) = some r := by first | (rw [hji7] at H; exact H) | (simp only [hji7] at H ⊢; exact H)
       have hji7w : (IntKind.i64.wrap (x3_2 - 1)) = ji7 := (i64_w _).trans hji7
       replace H := Ip H; obtain ⟨c8, H⟩ := H
       have c8b0 := jK c8
       clear c8
       replace H := Ip H; obtain ⟨c9, H⟩ := H
       have c9b0 := jK c9
       clear c9
       replace H := Ip H; obtain ⟨c10, H⟩ := H
       have c10b0 := jK c10
       clear c10
       replace H := Ic H; rcases H with ⟨c11, H⟩ | ⟨c11, H⟩
       · have c11b0 : decide ((rd l0 x3_2) < (rd l0 (ji7))) = true := jK c11
         clear c11
         obtain rfl := jM H
         obtain ⟨p250, q250, ad250, e250, hx250_0⟩ := Ai HR0.out (ji7)
         cases e250
         have p251 : 0 ≤ (x3_2 : Int) := Oa
         have q251 : x3_2 < (l0.length : Int) := Oa
         obtain ⟨ad251, e251, hx251_0⟩ := Kd.at_int HR0.out x3_2 p251 q251
         obtain rfl : ad250 = ad251 := (by injection e251)
         replace p251 := eq_true p251
         replace q251 := eq_true q251
         go_wp2
         repeat (go_quiet (fail); try go_wp2)
         go_ret
         exact ⟨by first | rfl | (simp; done) | (simp only [← hji7] <;> (first | rfl | simp)) | (simp [*]; done), Dr⟩
       have c11b0 : decide ((rd l0 x3_2) < (rd l0 (ji7))) = false := jV c11
       clear c11
       have H' := jA H
       clear H
       obtain ⟨p250, q250, ad250, e250, hx250_0⟩ := Ai HR0.out (ji7)
       cases e250
       have p251 : 0 ≤ (x3_2 : Int) := Oa
       have q251 : x3_2 < (l0.length : Int) := Oa
       obtain ⟨ad251, e251, hx251_0⟩ := Kd.at_int HR0.out x3_2 p251 q251
       obtain rfl : ad250 = ad251 := (by injection e251)
       replace p251 := eq_true p251
       replace q251 := eq_true q251
       go_wp2
       repeat (go_quiet (fail); try go_wp2)
       go_roundg k2
       case measure => have := HJ1.out; have := HK2.out; omega
       case rel => exact ⟨(wrap64 (x3_2 + 1)), Rs, H', ⟨by have := HJ1.out; have := HK2.out; omega⟩, Dr⟩
     have c6b0 := jV c6
     clear c6
     obtain rfl := jM H
     go_wp2
     repeat (go_quiet (fail); try go_wp2)
     go_ret
     exact ⟨Rs, Dr⟩

/-! ### spec_pzHidden: function 217 -/
def spec_pzHidden.f (k : Nat) (l0 : List Int) : Option (Bool) := if (l0.length : Int) ≤ 4 then ((spec_piGood.f k l0).bind fun t252 => (if t252 = true then ((spec_l1All.f k l0 1 6).bind fun t253 => (some t253)) else (some false))) else (some false)
theorem spec_pzHidden.calls (k : Nat) (A0 : Option Addr) (c0 : Nat) (l0 : List Int) (r : Bool) (w : World) (hr0 : Kd.C (Kd.int .i64) w A0 l0.length l0) (hc0 : l0.length ≤ c0) (h : spec_pzHidden.f k l0 = some r) :
 Calls Try.prog 217 #[.slice A0 l0.length c0] w fun e w' => e = .returned (.bool r) ∧ Drawn0 w w' := by
 have HR0 := jA hr0
 have HC0 := jA hc0
 clear hr0 hc0
 have H := h; unfold spec_pzHidden.f at H
 clear h
 replace H := Ic H; rcases H with ⟨c2, H⟩ | ⟨c2, H⟩
 · have c2b0 := jK c2
   have c2b1 : decide (l0.length ≤ 4) = true := jK (by omega)
   clear c2
   replace H := jD H
   obtain ⟨t252, A30, H⟩ := H
   have A3 := jA A30
   clear A30
   replace H := Iw H; rcases H with ⟨rfl, H⟩ | ⟨rfl, H⟩
   · replace H := jD H
     obtain ⟨t253, A50, H⟩ := H
     have A5 := jA A50
     clear A50
     obtain rfl := jM H
     go_enter Try.func217, Try.ntmps217
     go_wp2_with (first | (go_at_call 197; (with_reducible refine (spec_piGood.calls k _ _ l0 true _ (Cm HR0.out) HC0.out A3.out).mono ?_); rintro e w' ⟨rfl, ⟨nd, rfl⟩⟩) | (go_at_call 266; (with_reducible refine (spec_l1All.calls k _ _ l0 1 6 t253 _ (Cm HR0.out) HC0.out A5.out).mono ?_); rintro e w' ⟨rfl, ⟨nd, rfl⟩⟩))
     go_ret
     exact ⟨Rs, Dr⟩
   obtain rfl := jM H
   go_enter Try.func217, Try.ntmps217
   go_wp2_with (first | (go_at_call 197; (with_reducible refine (spec_piGood.calls k _ _ l0 false _ (Cm HR0.out) HC0.out A3.out).mono ?_); rintro e w' ⟨rfl, ⟨nd, rfl⟩⟩))
   go_ret
   exact ⟨Rs, Dr⟩
 have c2b0 := jV c2
 have c2b1 : decide (l0.length ≤ 4) = false := jV (by omega)
 clear c2
 obtain rfl := jM H
 go_enter Try.func217, Try.ntmps217
 go_wp2
 go_ret
 exact ⟨Rs, Dr⟩

/-! ### spec_pzNext: function 218 -/
def spec_pzNext.f (a0 : Int) : Option (Int) := some (Int.tmod (wrap64 ((wrap64 (179 * a0)) + 2081)) 10007)
theorem spec_pzNext.calls (a0 : Int) (r : Int) (w : World) (h : spec_pzNext.f a0 = some r) :
 Calls Try.prog 218 #[.int .i64 a0] w fun e w' => e = .returned (.int .i64 r) ∧ Drawn0 w w' := by
 have H := h; unfold spec_pzNext.f at H
 clear h
 obtain rfl := jM H
 go_enter Try.func218, Try.ntmps218
 go_wp2
 go_ret
 exact ⟨Rs, Dr⟩

/-! ### spec_pzAlone: function 285 -/
def spec_pzAlone.f (a0 : Int) : Option (Bool) := if a0 < 2 then (some true) else (some (a0 == 3))
theorem spec_pzAlone.calls (a0 : Int) (r : Bool) (w : World) (h : spec_pzAlone.f a0 = some r) :
 Calls Try.prog 285 #[.int .i64 a0] w fun e w' => e = .returned (.bool r) ∧ Drawn0 w w' := by
 have H := h; unfold spec_pzAlone.f at H
 clear h
 replace H := Ic H; rcases H with ⟨c2, H⟩ | ⟨c2, H⟩
 · have c2b0 := jK c2
   clear c2
   obtain rfl := jM H
   go_enter Try.func285, Try.ntmps285
   go_wp2
   go_ret
   exact ⟨Rs, Dr⟩
 have c2b0 := jV c2
 clear c2
 obtain rfl := jM H
 go_enter Try.func285, Try.ntmps285
 go_wp2
 go_ret
 exact ⟨Rs, Dr⟩

/-! ### spec_piSum: function 186 -/
def spec_piSum.l0 : Nat → Int → List Int → Int → Int → Option (Int)
 | 0, _, _, _, _ => none
 | k + 1, x3, x6, x7, x8 => if x8 < x7 then (if 0 ≤ x8 then (if x8 < (x6.length : Int) then (spec_piSum.l0 k (wrap64 (x3 + (rd x6 x8))) x6 x7 (wrap64 (x8 + 1))) else (none)) else (none)) else (some x3)
def spec_piSum.f (k : Nat) (l0 : List Int) : Option (Int) := spec_piSum.l0 k 0 l0 (l0.length : Int) 0
theorem spec_piSum.calls (k : Nat) (A0 : Option Addr) (c0 : Nat) (l0 : List Int) (r : Int) (w : World) (hr0 : Kd.C (Kd.int .i64) w A0 l0.length l0) (hc0 : l0.length ≤ c0) (h : spec_piSum.f k l0 = some r) :
 Calls Try.prog 186 #[.slice A0 l0.length c0] w fun e w' => e = .returned (.int .i64 r) ∧ Drawn0 w w' := by
 have HR0 := jA hr0
 have HC0 := jA hc0
 clear hr0 hc0
 have H := h; unfold spec_piSum.f at H
 clear h
 have H' := jA H
 clear H
 go_enter Try.func186, Try.ntmps186
 go_wp2
 go_loopg [3, 8] k (fun kq v3 v8 w' => ∃ (x3_1 : Int) (x8_1 : Int), v3 = .int .i64 x3_1 ∧ v8 = .int .i64 x8_1 ∧ Aside0 (spec_piSum.l0 kq x3_1 l0 (l0.length : Int) x8_1 = some r) ∧ Aside0 (kq ≤ k) ∧ Drawn0 w w')
 case atStart => exact ⟨(0), (0), Rs, Rs, H', ⟨jX _⟩, Dr⟩
 case round =>
  clear H'
  obtain ⟨x3_1, x8_1, rfl, rfl, HA, HK1, ⟨m1, rfl⟩⟩ := hrel
  cases gk with
  | zero => exact absurd HA.out (by simp [spec_piSum.l0])
  | succ k1 =>
   have H := HA.out
   clear HA
   simp only [spec_piSum.l0] at H
   replace H := Ic H; rcases H with ⟨c2, H⟩ | ⟨c2, H⟩
   · have c2b0 := jK c2
     clear c2
     replace H := Ip H; obtain ⟨c3, H⟩ := H
     have c3b0 := jK c3
     clear c3
     replace H := Ip H; obtain ⟨c4, H⟩ := H
     have c4b0 := jK c4
     clear c4
     have H' := jA H
     clear H
     obtain ⟨p254, q254, ad254, e254, hx254_0⟩ := Ai HR0.out x8_1
     cases e254
     go_wp2
     go_roundg k1
     case measure => have := HK1.out; omega
     case rel => exact ⟨(wrap64 (x3_1 + (rd l0 x8_1))), (wrap64 (x8_1 + 1)), Rs, Rs, H', ⟨by have := HK1.out; omega⟩, Dr⟩
   have c2b0 := jV c2
   clear c2
   obtain rfl := jM H
   go_wp2
   go_ret
   exact ⟨Rs, Dr⟩

/-! ### spec_l1Least: function 187 -/
def spec_l1Least.f (a0 : Int) (a1 : Int) : Option (Int) := if a0 < a1 then (some a0) else (some a1)
theorem spec_l1Least.calls (a0 : Int) (a1 : Int) (r : Int) (w : World) (h : spec_l1Least.f a0 a1 = some r) :
 Calls Try.prog 187 #[.int .i64 a0, .int .i64 a1] w fun e w' => e = .returned (.int .i64 r) ∧ Drawn0 w w' := by
 have H := h; unfold spec_l1Least.f at H
 clear h
 replace H := Ic H; rcases H with ⟨c3, H⟩ | ⟨c3, H⟩
 · have c3b0 := jK c3
   clear c3
   obtain rfl := jM H
   go_enter Try.func187, Try.ntmps187
   go_wp2
   go_ret
   exact ⟨Rs, Dr⟩
 have c3b0 := jV c3
 clear c3
 obtain rfl := jM H
 go_enter Try.func187, Try.ntmps187
 go_wp2
 go_ret
 exact ⟨Rs, Dr⟩

/-! ### spec_piRun: function 200 -/
def spec_piRun.l0 : Nat → Int → List Int → Int → Int → Option (Int)
 | 0, _, _, _, _ => none
 | k + 1, x3, x6, x7, x8 => if x8 < x7 then (if 0 ≤ x8 then (if x8 < (x6.length : Int) then (if (rd x6 x8) > (wrap64 (x3 + 1)) then (some x3) else (spec_piRun.l0 k (wrap64 (x3 + (rd x6 x8))) x6 x7 (wrap64 (x8 + 1)))) else (none)) else (none)) else (some x3)
def spec_piRun.f (k : Nat) (l0 : List Int) : Option (Int) := spec_piRun.l0 k 0 l0 (l0.length : Int) 0
theorem spec_piRun.calls (k : Nat) (A0 : Option Addr) (c0 : Nat) (l0 : List Int) (r : Int) (w : World) (hr0 : Kd.C (Kd.int .i64) w A0 l0.length l0) (hc0 : l0.length ≤ c0) (h : spec_piRun.f k l0 = some r) :
 Calls Try.prog 200 #[.slice A0 l0.length c0] w fun e w' => e = .returned (.int .i64 r) ∧ Drawn0 w w' := by
 have HR0 := jA hr0
 have HC0 := jA hc0
 clear hr0 hc0
 have H := h; unfold spec_piRun.f at H
 clear h
 have H' := jA H
 clear H
 go_enter Try.func200, Try.ntmps200
 go_wp2
 go_loopg [3, 8] k (fun kq v3 v8 w' => ∃ (x3_1 : Int) (x8_1 : Int), v3 = .int .i64 x3_1 ∧ v8 = .int .i64 x8_1 ∧ Aside0 (spec_piRun.l0 kq x3_1 l0 (l0.length : Int) x8_1 = some r) ∧ Aside0 (kq ≤ k) ∧ Drawn0 w w')
 case atStart => exact ⟨(0), (0), Rs, Rs, H', ⟨jX _⟩, Dr⟩
 case round =>
  clear H'
  obtain ⟨x3_1, x8_1, rfl, rfl, HA, HK1, ⟨m1, rfl⟩⟩ := hrel
  cases gk with
  | zero => exact absurd HA.out (by simp [spec_piRun.l0])
  | succ k1 =>
   have H := HA.out
   clear HA
   simp only [spec_piRun.l0] at H
   replace H := Ic H; rcases H with ⟨c2, H⟩ | ⟨c2, H⟩
   · have c2b0 := jK c2
     clear c2
     replace H := Ip H; obtain ⟨c3, H⟩ := H
     have c3b0 := jK c3
     clear c3
     replace H := Ip H; obtain ⟨c4, H⟩ := H
     have c4b0 := jK c4
     clear c4
     replace H := Ic H; rcases H with ⟨c5, H⟩ | ⟨c5, H⟩
     · have c5b0 : decide ((wrap64 (x3_1 + 1)) < (rd l0 x8_1)) = true := jK c5
       clear c5
       obtain rfl := jM H
       obtain ⟨p255, q255, ad255, e255, hx255_0⟩ := Ai HR0.out x8_1
       cases e255
       go_wp2
       go_ret
       exact ⟨Rs, Dr⟩
     have c5b0 : decide ((wrap64 (x3_1 + 1)) < (rd l0 x8_1)) = false := jV c5
     clear c5
     have H' := jA H
     clear H
     obtain ⟨p255, q255, ad255, e255, hx255_0⟩ := Ai HR0.out x8_1
     cases e255
     go_wp2
     go_roundg k1
     case measure => have := HK1.out; omega
     case rel => exact ⟨(wrap64 (x3_1 + (rd l0 x8_1))), (wrap64 (x8_1 + 1)), Rs, Rs, H', ⟨by have := HK1.out; omega⟩, Dr⟩
   have c2b0 := jV c2
   clear c2
   obtain rfl := jM H
   go_wp2
   go_ret
   exact ⟨Rs, Dr⟩

end Go.Proofs.Ytgeoihhibglhgaa.PFnPiecesHidden
