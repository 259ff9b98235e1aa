-- MADE FOR THIS CLAIM by wip/xp/xprint.py (with the kit's print; some functions' contracts proved by hand)
import Derived.Test.YtfiikhdkohgmfaaPFnExactMakePuzzlex0
import Derived.Test.YtfiikhdkohgmfaaPFnExactMakePuzzlex5
namespace Go.Proofs.Ytfiikhdkohgmfaa.PFnExactMakePuzzle
open Go.RowKit Go.Proofs.YtfiikhdkohgmfaaW.PrintWords Go.Proofs.YtfiikhdkohgmfaaW.PrintLast Go.Proofs.YtfiikhdkohgmfaaW.PrintMore
attribute [local go_sem] max2_int min2_int max_two min_two max_three min_three max_four min_four   -- for this text's walks alone
set_option linter.unusedVariables false
set_option linter.unusedSimpArgs false

/-! ### impl_areWithin: function 125 -/
-- GIVEN loop.example/g01305/impl.areWithin
theorem within_closure (x lo hi : Int) (aL aH : Addr) (w : World) (hL : w.cell? aL = some (.int .i64 lo)) (hH : w.cell? aH = some (.int .i64 hi)) :
    Calls Try.prog 155 #[.int .i64 x, .pointer (some aL), .pointer (some aH)] w fun e w' => e = .returned (.bool (!(decide (lo ≤ x) && decide (x ≤ hi)))) ∧ w = w' := by
  by_cases h1 : lo ≤ x
  · have e1 : decide (lo ≤ x) = true := decide_eq_true h1
    by_cases h2 : x ≤ hi
    · have e2 : decide (x ≤ hi) = true := decide_eq_true h2
      go_enter Try.func155, Try.ntmps155
      go_wp2
      go_ret
      exact ⟨by first | (simp; done) | (simp; omega), rfl⟩
    · have e2 : decide (x ≤ hi) = false := decide_eq_false h2
      go_enter Try.func155, Try.ntmps155
      go_wp2
      go_ret
      exact ⟨by first | (simp; done) | (simp; omega), rfl⟩
  · have e1 : decide (lo ≤ x) = false := decide_eq_false h1
    go_enter Try.func155, Try.ntmps155
    go_wp2
    go_ret
    exact ⟨by first | (simp; done) | (simp; omega), rfl⟩

def impl_areWithin.f (l0 : List Int) (a1 : Int) (a2 : Int) : Option (Bool) := some (l0.all fun x => decide (a1 ≤ x) && decide (x ≤ a2))
theorem impl_areWithin.calls (A0 : Option Addr) (c0 : Nat) (l0 : List Int) (a1 : Int) (a2 : Int) (r : Bool) (w : World) (hr0 : Kd.C (Kd.int .i64) w A0 l0.length l0) (hc0 : l0.length ≤ c0) (h : impl_areWithin.f l0 a1 a2 = some r) :
    Calls Try.prog 125 #[.slice A0 l0.length c0, .int .i64 a1, .int .i64 a2] w fun e w' => e = .returned (.bool r) ∧ Below w.heap.size w w' := by
  obtain rfl := Option.some.inj h
  clear h
  have HR0 := Aside0.mk hr0
  have hmf : ∀ (fn : Fn) (first cap : Array Value) (w : World), (Instr.makeFunc fn first cap).run Try.prog w = .ok (.func fn first cap) w := fun _ _ _ _ => rfl
  have hp : PredI 155 #[.pointer (some ⟨w.heap.size, 0, none⟩), .pointer (some ⟨w.heap.size + 1, 0, none⟩)] (fun x => !(decide (a1 ≤ x) && decide (x ≤ a2))) ((w.alloc (.cells #[.int .i64 a1] 3)).alloc (.cells #[.int .i64 a2] 3)) := by
    intro W x hb
    have c1 : W.cell? ⟨w.heap.size, 0, none⟩ = some (.int .i64 a1) := by rw [hb.cell (p := ⟨w.heap.size, 0, none⟩) (by simp; omega)]; simp
    have c2 : W.cell? ⟨w.heap.size + 1, 0, none⟩ = some (.int .i64 a2) := by rw [hb.cell (p := ⟨w.heap.size + 1, 0, none⟩) (by simp)]; simp
    refine (within_closure x a1 a2 _ _ W c1 c2).mono ?_
    rintro e w' ⟨rfl, rfl⟩
    exact ⟨rfl, hb⟩
  have hP := Aside0.mk hp
  clear hp
  go_enter Try.func125, Try.ntmps125
  go_wp2_with (go_at_call 154; refine (containsFunc_int _ 155 _ (enters_of Try.func155 (by kernel_rfl) rfl) A0 c0 l0 _ (Kd.C_below (Kd.C_below HR0.out ((Below.refl _ _).alloc (Nat.le_refl _) _)) ((Below.refl _ _).alloc (Nat.le_refl _) _)) hc0 hP.out).mono ?_; rintro e w' ⟨rfl, hb'⟩)
  go_ret
  refine ⟨?_, ?_⟩
  · first | rfl | (congr 2; rw [List.any_eq_not_all_not]; simp)
  · exact (((Below.refl _ _).alloc (Nat.le_refl _) _).alloc (by simp) _).trans (hb'.mono (by simp; omega))


/-! ### cmp_isNaN_int: function 166 -/
def cmp_isNaN_int.f (a0 : Int) : Option (Bool) := some (a0 != a0)
set_option maxHeartbeats 8000000 in
set_option maxRecDepth 100000 in
theorem cmp_isNaN_int.calls (a0 : Int) (r : Bool) (w : World) (h : cmp_isNaN_int.f a0 = some r) :
    Calls Try.prog 166 #[.int .i64 a0] w fun e w' => e = .returned (.bool r) ∧ Drawn0 w w' := by
  have H : (some (a0 != a0)) = some r := h
  clear h
  obtain rfl := Option.some.inj H
  go_enter Try.func166, Try.ntmps166
  go_wp2
  go_ret
  exact ⟨by first | rfl | (simp; done) | (simp [*]; done), by repeat (first | exact Drawn0.refl _ | apply Drawn0.step)⟩

/-! ### cmp_Less_int: function 157 -/
def cmp_Less_int.f (a0 : Int) (a1 : Int) : Option (Bool) := (cmp_isNaN_int.f a0).bind fun t196 => (if t196 = true then ((cmp_isNaN_int.f a1).bind fun t197 => (if t197 = true then (some (decide (a0 < a1))) else (some true))) else (some (decide (a0 < a1))))
set_option maxHeartbeats 8000000 in
set_option maxRecDepth 100000 in
theorem cmp_Less_int.calls (a0 : Int) (a1 : Int) (r : Bool) (w : World) (h : cmp_Less_int.f a0 a1 = some r) :
    Calls Try.prog 157 #[.int .i64 a0, .int .i64 a1] w fun e w' => e = .returned (.bool r) ∧ Drawn0 w w' := by
  have H : ((cmp_isNaN_int.f a0).bind fun t196 => (if t196 = true then ((cmp_isNaN_int.f a1).bind fun t197 => (if t197 = true then (some (decide (a0 < a1))) else (some true))) else (some (decide (a0 < a1))))) = some r := h
  clear h
  replace H := Option.bind_eq_some_iff.mp H
  obtain ⟨t196, A30, H⟩ := H
  replace H : (if t196 = true then ((cmp_isNaN_int.f a1).bind fun t197 => (if t197 = true then (some (decide (a0 < a1))) else (some true))) else (some (decide (a0 < a1)))) = some r := H
  have A3 := Aside0.mk A30
  clear A30
  by_cases c4 : t196 = true
  · subst c4
    have H1 : ((cmp_isNaN_int.f a1).bind fun t197 => (if t197 = true then (some (decide (a0 < a1))) else (some true))) = some r := by rw [if_pos rfl] at H; exact H
    clear H
    have H := H1
    clear H1
    replace H := Option.bind_eq_some_iff.mp H
    obtain ⟨t197, A50, H⟩ := H
    replace H : (if t197 = true then (some (decide (a0 < a1))) else (some true)) = some r := H
    have A5 := Aside0.mk A50
    clear A50
    by_cases c6 : t197 = true
    · subst c6
      have H1 : (some (decide (a0 < a1))) = some r := by rw [if_pos rfl] at H; exact H
      clear H
      have H := H1
      clear H1
      obtain rfl := Option.some.inj H
      go_enter Try.func157, Try.ntmps157
      go_wp2_with (first | ((with_reducible refine gate_callee (f := 166) rfl ?_); refine goesL_ (some 6) rfl rfl Try.func166 (by kernel_rfl) rfl #[.int .i64 a0] rfl (by (try simp only [List.map_toArray, List.map_cons, List.map_nil]); first | done | rfl | (simp only [List.length_drop, List.length_take]; rfl)) ?_; (with_reducible refine (cmp_isNaN_int.calls a0 true _ A3.out).mono ?_); rintro e w' ⟨rfl, ⟨nd, rfl⟩⟩; refine ⟨_, rfl, ?_⟩) | (go_at_call 166; (with_reducible refine (cmp_isNaN_int.calls a1 true _ A5.out).mono ?_); rintro e w' ⟨rfl, ⟨nd, rfl⟩⟩))
      go_ret
      exact ⟨by first | rfl | (simp; done) | (simp [*]; done), by repeat (first | exact Drawn0.refl _ | apply Drawn0.step)⟩
    · replace c6 := Bool.eq_false_iff.mpr c6
      subst c6
      have H1 : (some true) = some r := by rw [if_neg (show ¬ (false = true) by decide)] at H; exact H
      clear H
      have H := H1
      clear H1
      obtain rfl := Option.some.inj H
      go_enter Try.func157, Try.ntmps157
      go_wp2_with (first | ((with_reducible refine gate_callee (f := 166) rfl ?_); refine goesL_ (some 6) rfl rfl Try.func166 (by kernel_rfl) rfl #[.int .i64 a0] rfl (by (try simp only [List.map_toArray, List.map_cons, List.map_nil]); first | done | rfl | (simp only [List.length_drop, List.length_take]; rfl)) ?_; (with_reducible refine (cmp_isNaN_int.calls a0 true _ A3.out).mono ?_); rintro e w' ⟨rfl, ⟨nd, rfl⟩⟩; refine ⟨_, rfl, ?_⟩) | (go_at_call 166; (with_reducible refine (cmp_isNaN_int.calls a1 false _ A5.out).mono ?_); rintro e w' ⟨rfl, ⟨nd, rfl⟩⟩))
      go_ret
      exact ⟨by first | rfl | (simp; done) | (simp [*]; done), by repeat (first | exact Drawn0.refl _ | apply Drawn0.step)⟩
  · replace c4 := Bool.eq_false_iff.mpr c4
    subst c4
    have H1 : (some (decide (a0 < a1))) = some r := by rw [if_neg (show ¬ (false = true) by decide)] at H; exact H
    clear H
    have H := H1
    clear H1
    obtain rfl := Option.some.inj H
    go_enter Try.func157, Try.ntmps157
    go_wp2_with (first | ((with_reducible refine gate_callee (f := 166) rfl ?_); refine goesL_ (some 6) rfl rfl Try.func166 (by kernel_rfl) rfl #[.int .i64 a0] rfl (by (try simp only [List.map_toArray, List.map_cons, List.map_nil]); first | done | rfl | (simp only [List.length_drop, List.length_take]; rfl)) ?_; (with_reducible refine (cmp_isNaN_int.calls a0 false _ A3.out).mono ?_); rintro e w' ⟨rfl, ⟨nd, rfl⟩⟩; refine ⟨_, rfl, ?_⟩))
    go_ret
    exact ⟨by first | rfl | (simp; done) | (simp [*]; done), by repeat (first | exact Drawn0.refl _ | apply Drawn0.step)⟩

/-! ### slices_IsSorted_int_int: function 135 -/
def slices_IsSorted_int_int.l0 : Nat → List Int → Int → Option (Bool)
  | 0, _, _ => none
  | k + 1, x0, x3 => if x3 > 0 then (if 0 ≤ x3 then (if x3 < (x0.length : Int) then (if 0 ≤ (wrap64 (x3 - 1)) then (if (wrap64 (x3 - 1)) < (x0.length : Int) then ((cmp_Less_int.f (rd x0 x3) (rd x0 (wrap64 (x3 - 1)))).bind fun t200 => (if t200 = true then (some false) else (slices_IsSorted_int_int.l0 k x0 (wrap64 (x3 - 1))))) else (none)) else (none)) else (none)) else (none)) else (some true)
def slices_IsSorted_int_int.f (k : Nat) (l0 : List Int) : Option (Bool) := slices_IsSorted_int_int.l0 k l0 (wrap64 ((l0.length : Int) - 1))
theorem slices_IsSorted_int_int.mono_l : ∀ k, (∀ y0 y1, LeO (slices_IsSorted_int_int.l0 k y0 y1) (slices_IsSorted_int_int.l0 (k + 1) y0 y1))
  | 0 => fun _ _ r h => by simp [slices_IsSorted_int_int.l0] at h
  | k + 1 => by
    have ih0 := slices_IsSorted_int_int.mono_l k
    · intro y0 y1
      unfold slices_IsSorted_int_int.l0
      repeat' first
      | (with_reducible exact ih0 _ _)
      | (with_reducible exact LeO.refl _)
      | (with_reducible exact LeO.none _)
      | (with_reducible refine LeO.ite ?_ ?_)
      | (with_reducible refine LeO.bind ?_ (fun _ => ?_))
      | exact ih0 _ _
      | exact LeO.none _
      | refine LeO.ite ?_ ?_
      | refine LeO.bind ?_ (fun _ => ?_)
theorem slices_IsSorted_int_int.mono : ∀ a0 k, LeO (slices_IsSorted_int_int.f k a0) (slices_IsSorted_int_int.f (k + 1) a0) := by
  intro a0 k
  have ih0 := slices_IsSorted_int_int.mono_l k
  unfold slices_IsSorted_int_int.f
  repeat' first
      | (with_reducible exact ih0 _ _)
      | (with_reducible exact LeO.refl _)
      | (with_reducible exact LeO.none _)
      | (with_reducible refine LeO.ite ?_ ?_)
      | (with_reducible refine LeO.bind ?_ (fun _ => ?_))
      | exact ih0 _ _
      | exact LeO.none _
      | refine LeO.ite ?_ ?_
      | refine LeO.bind ?_ (fun _ => ?_)
set_option maxHeartbeats 8000000 in
set_option maxRecDepth 100000 in
theorem slices_IsSorted_int_int.calls (k : Nat) (A0 : Option Addr) (c0 : Nat) (l0 : List Int) (r : Bool) (w : World) (hr0 : Kd.C (Kd.int .i64) w A0 l0.length l0) (hc0 : l0.length ≤ c0) (h : slices_IsSorted_int_int.f k l0 = some r) :
    Calls Try.prog 135 #[.slice A0 l0.length c0] w fun e w' => e = .returned (.bool r) ∧ Drawn0 w w' := by
  have HR0 := Aside0.mk hr0
  have HC0 := Aside0.mk hc0
  clear hr0 hc0
  have H : (slices_IsSorted_int_int.l0 k l0 (wrap64 ((l0.length : Int) - 1))) = some r := h
  clear h
  have H' := Aside0.mk H
  clear H
  go_enter Try.func135, Try.ntmps135
  go_wp2
  repeat (go_quiet (fail); try go_wp2)
  go_loopg [3] k (fun kq v3 w' => ∃ (x3_1 : Int), v3 = .int .i64 x3_1 ∧ Aside0 (slices_IsSorted_int_int.l0 kq l0 x3_1 = some r) ∧ Aside0 (kq ≤ k) ∧ Drawn0 w w')
  case atStart => exact ⟨(wrap64 ((l0.length : Int) - 1)), (by first | rfl | (simp; done) | (simp [*]; done)), H', ⟨Nat.le_refl _⟩, by repeat (first | exact Drawn0.refl _ | apply Drawn0.step)⟩
  case round =>
    clear H'
    try clear c1
    obtain ⟨x3_1, rfl, HA, HK1, ⟨m1, rfl⟩⟩ := hrel
    cases gk with
    | zero => exact absurd HA.out (by simp [slices_IsSorted_int_int.l0])
    | succ k1 =>
      have H := HA.out
      clear HA
      simp only [slices_IsSorted_int_int.l0] at H
      by_cases c2 : x3_1 > 0
      · rw [if_pos c2] at H
        have c2b0 : decide (0 < x3_1) = true := decide_eq_true c2
        clear c2
        by_cases c3 : 0 ≤ x3_1
        · rw [if_pos c3] at H
          have c3b0 : decide (0 ≤ x3_1) = true := decide_eq_true c3
          clear c3
          by_cases c4 : x3_1 < (l0.length : Int)
          · rw [if_pos c4] at H
            have c4b0 : decide (x3_1 < (l0.length : Int)) = true := decide_eq_true c4
            clear c4
            obtain ⟨ji5, hji5⟩ : ∃ j_ : Int, (wrap64 (x3_1 - 1)) = j_ := ⟨_, rfl⟩
            replace H : (if 0 ≤ (ji5) then (if (ji5) < (l0.length : Int) then ((cmp_Less_int.f (rd l0 x3_1) (rd l0 (ji5))).bind fun t200 => (if t200 = true then (some false) else (slices_IsSorted_int_int.l0 k1 l0 ji5))) else (none)) else (none)) = some r := by first | (rw [hji5] at H; exact H) | (simp only [hji5] at H ⊢; exact H)
            have hji5w : (IntKind.i64.wrap (x3_1 - 1)) = ji5 := (i64_w _).trans hji5
            by_cases c6 : 0 ≤ (ji5)
            · rw [if_pos c6] at H
              have c6b0 : decide (0 ≤ (ji5)) = true := decide_eq_true c6
              clear c6
              by_cases c7 : (ji5) < (l0.length : Int)
              · rw [if_pos c7] at H
                have c7b0 : decide ((ji5) < (l0.length : Int)) = true := decide_eq_true c7
                clear c7
                replace H := Option.bind_eq_some_iff.mp H
                obtain ⟨t200, A80, H⟩ := H
                replace H : (if t200 = true then (some false) else (slices_IsSorted_int_int.l0 k1 l0 ji5)) = some r := H
                have A8 := Aside0.mk A80
                clear A80
                by_cases c9 : t200 = true
                · subst c9
                  have H1 : (some false) = some r := by rw [if_pos rfl] at H; exact H
                  clear H
                  have H := H1
                  clear H1
                  obtain rfl := Option.some.inj H
                  have p198 : 0 ≤ (x3_1 : Int) := of_decide_eq_true (by first | (with_reducible assumption) | assumption)
                  have q198 : x3_1 < (l0.length : Int) := of_decide_eq_true (by first | (with_reducible assumption) | assumption)
                  obtain ⟨ad198, e198, hx198_0⟩ := Kd.at_int HR0.out x3_1 p198 q198
                  cases e198
                  replace p198 := eq_true p198
                  replace q198 := eq_true q198
                  have p199 : 0 ≤ ((ji5) : Int) := of_decide_eq_true (by first | (with_reducible assumption) | assumption)
                  have q199 : (ji5) < (l0.length : Int) := of_decide_eq_true (by first | (with_reducible assumption) | assumption)
                  obtain ⟨ad199, e199, hx199_0⟩ := Kd.at_int HR0.out (ji5) p199 q199
                  obtain rfl : ad198 = ad199 := (by injection e199)
                  replace p199 := eq_true p199
                  replace q199 := eq_true q199
                  go_wp2_with (first | (go_at_call 157; (with_reducible refine (cmp_Less_int.calls (rd l0 x3_1) (rd l0 (ji5)) true _ A8.out).mono ?_); rintro e w' ⟨rfl, ⟨nd, rfl⟩⟩; (try first | exact ⟨rfl, _, World.drewN_drewN _ _ _⟩ | exact ⟨rfl, _, Eq.trans (World.drewN_drewN _ _ _) (congrArg (World.drewN _) (Nat.add_assoc _ _ _))⟩)))
                  repeat (go_quiet (first | (go_at_call 157; (with_reducible refine (cmp_Less_int.calls (rd l0 x3_1) (rd l0 (ji5)) true _ A8.out).mono ?_); rintro e w' ⟨rfl, ⟨nd, rfl⟩⟩; (try first | exact ⟨rfl, _, World.drewN_drewN _ _ _⟩ | exact ⟨rfl, _, Eq.trans (World.drewN_drewN _ _ _) (congrArg (World.drewN _) (Nat.add_assoc _ _ _))⟩))); try go_wp2_with (first | (go_at_call 157; (with_reducible refine (cmp_Less_int.calls (rd l0 x3_1) (rd l0 (ji5)) true _ A8.out).mono ?_); rintro e w' ⟨rfl, ⟨nd, rfl⟩⟩; (try first | exact ⟨rfl, _, World.drewN_drewN _ _ _⟩ | exact ⟨rfl, _, Eq.trans (World.drewN_drewN _ _ _) (congrArg (World.drewN _) (Nat.add_assoc _ _ _))⟩))))
                  go_ret
                  exact ⟨by first | rfl | (simp; done) | (simp only [← hji5] <;> (first | rfl | simp)) | (simp [*]; done), by repeat (first | exact Drawn0.refl _ | apply Drawn0.step)⟩
                · replace c9 := Bool.eq_false_iff.mpr c9
                  subst c9
                  have H1 : (slices_IsSorted_int_int.l0 k1 l0 ji5) = some r := by rw [if_neg (show ¬ (false = true) by decide)] at H; exact H
                  clear H
                  have H := H1
                  clear H1
                  have H' := Aside0.mk H
                  clear H
                  have p198 : 0 ≤ (x3_1 : Int) := of_decide_eq_true (by first | (with_reducible assumption) | assumption)
                  have q198 : x3_1 < (l0.length : Int) := of_decide_eq_true (by first | (with_reducible assumption) | assumption)
                  obtain ⟨ad198, e198, hx198_0⟩ := Kd.at_int HR0.out x3_1 p198 q198
                  cases e198
                  replace p198 := eq_true p198
                  replace q198 := eq_true q198
                  have p199 : 0 ≤ ((ji5) : Int) := of_decide_eq_true (by first | (with_reducible assumption) | assumption)
                  have q199 : (ji5) < (l0.length : Int) := of_decide_eq_true (by first | (with_reducible assumption) | assumption)
                  obtain ⟨ad199, e199, hx199_0⟩ := Kd.at_int HR0.out (ji5) p199 q199
                  obtain rfl : ad198 = ad199 := (by injection e199)
                  replace p199 := eq_true p199
                  replace q199 := eq_true q199
                  go_wp2_with (first | (go_at_call 157; (with_reducible refine (cmp_Less_int.calls (rd l0 x3_1) (rd l0 (ji5)) false _ A8.out).mono ?_); rintro e w' ⟨rfl, ⟨nd, rfl⟩⟩; (try first | exact ⟨rfl, _, World.drewN_drewN _ _ _⟩ | exact ⟨rfl, _, Eq.trans (World.drewN_drewN _ _ _) (congrArg (World.drewN _) (Nat.add_assoc _ _ _))⟩)))
                  repeat (go_quiet (first | (go_at_call 157; (with_reducible refine (cmp_Less_int.calls (rd l0 x3_1) (rd l0 (ji5)) false _ A8.out).mono ?_); rintro e w' ⟨rfl, ⟨nd, rfl⟩⟩; (try first | exact ⟨rfl, _, World.drewN_drewN _ _ _⟩ | exact ⟨rfl, _, Eq.trans (World.drewN_drewN _ _ _) (congrArg (World.drewN _) (Nat.add_assoc _ _ _))⟩))); try go_wp2_with (first | (go_at_call 157; (with_reducible refine (cmp_Less_int.calls (rd l0 x3_1) (rd l0 (ji5)) false _ A8.out).mono ?_); rintro e w' ⟨rfl, ⟨nd, rfl⟩⟩; (try first | exact ⟨rfl, _, World.drewN_drewN _ _ _⟩ | exact ⟨rfl, _, Eq.trans (World.drewN_drewN _ _ _) (congrArg (World.drewN _) (Nat.add_assoc _ _ _))⟩))))
                  go_roundg k1
                  case measure => have := HK1.out; omega
                  case rel => exact ⟨(ji5), (by first | rfl | (simp; done) | (simp only [← hji5] <;> (first | rfl | simp)) | (simp [*]; done)), H', ⟨by have := HK1.out; omega⟩, by repeat (first | exact Drawn0.refl _ | apply Drawn0.step)⟩
              · rw [if_neg c7] at H
                exact absurd H (by simp)
            · rw [if_neg c6] at H
              exact absurd H (by simp)
          · rw [if_neg c4] at H
            exact absurd H (by simp)
        · rw [if_neg c3] at H
          exact absurd H (by simp)
      · rw [if_neg c2] at H
        have c2b0 : decide (0 < x3_1) = false := decide_eq_false c2
        clear c2
        obtain rfl := Option.some.inj H
        go_wp2
        repeat (go_quiet (fail); try go_wp2)
        go_ret
        exact ⟨by first | rfl | (simp; done) | (simp [*]; done), by repeat (first | exact Drawn0.refl _ | apply Drawn0.step)⟩

/-! ### impl_IsHidden: function 92 -/
def impl_IsHidden.f (k : Nat) (l0 : List Int) : Option (Bool) := if (l0.length : Int) ≤ 4 then ((impl_areWithin.f l0 1 6).bind fun t201 => (if t201 = true then ((slices_IsSorted_int_int.f k l0).bind fun t202 => (some t202)) else (some false))) else (some false)
theorem impl_IsHidden.mono : ∀ a0 k, LeO (impl_IsHidden.f k a0) (impl_IsHidden.f (k + 1) a0) := by
  intro a0 k
  unfold impl_IsHidden.f
  repeat' first
      | (with_reducible exact slices_IsSorted_int_int.mono _ _)
      | (with_reducible exact LeO.refl _)
      | (with_reducible exact LeO.none _)
      | (with_reducible refine LeO.ite ?_ ?_)
      | (with_reducible refine LeO.bind ?_ (fun _ => ?_))
      | exact slices_IsSorted_int_int.mono _ _
      | exact LeO.none _
      | refine LeO.ite ?_ ?_
      | refine LeO.bind ?_ (fun _ => ?_)
set_option maxHeartbeats 8000000 in
set_option maxRecDepth 100000 in
theorem impl_IsHidden.calls (k : Nat) (A0 : Option Addr) (c0 : Nat) (l0 : List Int) (r : Bool) (w : World) (hr0 : Kd.C (Kd.int .i64) w A0 l0.length l0) (hc0 : l0.length ≤ c0) (h : impl_IsHidden.f k l0 = some r) :
    Calls Try.prog 92 #[.slice A0 l0.length c0] w fun e w' => e = .returned (.bool r) ∧ Below w.heap.size w w' := by
  have HR0 := Aside0.mk hr0
  have HC0 := Aside0.mk hc0
  clear hr0 hc0
  have HB := Aside0.mk (Below.refl w.heap.size w)
  have H : (if (l0.length : Int) ≤ 4 then ((impl_areWithin.f l0 1 6).bind fun t201 => (if t201 = true then ((slices_IsSorted_int_int.f k l0).bind fun t202 => (some t202)) else (some false))) else (some false)) = some r := h
  clear h
  by_cases c2 : (l0.length : Int) ≤ 4
  · rw [if_pos c2] at H
    have c2b0 : decide ((l0.length : Int) ≤ 4) = true := decide_eq_true c2
    have c2b1 : decide (l0.length ≤ 4) = true := decide_eq_true (by omega)
    clear c2
    replace H := Option.bind_eq_some_iff.mp H
    obtain ⟨t201, A30, H⟩ := H
    replace H : (if t201 = true then ((slices_IsSorted_int_int.f k l0).bind fun t202 => (some t202)) else (some false)) = some r := H
    have A3 := Aside0.mk A30
    clear A30
    by_cases c4 : t201 = true
    · subst c4
      have H1 : ((slices_IsSorted_int_int.f k l0).bind fun t202 => (some t202)) = some r := by rw [if_pos rfl] at H; exact H
      clear H
      have H := H1
      clear H1
      replace H := Option.bind_eq_some_iff.mp H
      obtain ⟨t202, A50, H⟩ := H
      replace H : (some t202) = some r := H
      have A5 := Aside0.mk A50
      clear A50
      obtain rfl := Option.some.inj H
      go_enter Try.func92, Try.ntmps92
      go_wp2_with (first | (go_at_call 125; (with_reducible refine (impl_areWithin.calls _ _ l0 1 6 true _ ?side1 ?side2 A3.out).mono ?_); (case side1 => repeat (first | exact HR0.out | (with_reducible refine Kd.C_alloc ?_ _) | (with_reducible refine Kd.C_drewN ?_ _) | (with_reducible refine Kd.C_drew ?_))); (case side2 => exact HC0.out); rintro e w6 ⟨rfl, hb⟩; have n0_ := Aside0.mk (below_step (by repeat (first | (with_reducible first | exact HB.out | apply below_alloc | apply pw_below_drewN | apply below_drew1) | exact HB.out)) hb); clear HB; have HB := n0_; clear n0_; (try clear hb); (try clear hb2); (try clear hk); (try clear hi)) | (go_at_call 135; (with_reducible refine (slices_IsSorted_int_int.calls k _ _ l0 t202 _ ?side1 ?side2 A5.out).mono ?_); (case side1 => repeat (first | exact (Kd.C_below HR0.out HB.out) | (with_reducible refine Kd.C_alloc ?_ _) | (with_reducible refine Kd.C_drewN ?_ _) | (with_reducible refine Kd.C_drew ?_))); (case side2 => exact HC0.out); rintro e w' ⟨rfl, ⟨nd, rfl⟩⟩))
      go_ret
      exact ⟨by first | rfl | (simp [errW_none, errW_some] <;> rfl) | (simp [*, errW_none, errW_some] <;> rfl), by repeat (first | (with_reducible first | exact HB.out | apply below_alloc | apply pw_below_drewN | apply below_drew1) | exact HB.out)⟩
    · replace c4 := Bool.eq_false_iff.mpr c4
      subst c4
      have H1 : (some false) = some r := by rw [if_neg (show ¬ (false = true) by decide)] at H; exact H
      clear H
      have H := H1
      clear H1
      obtain rfl := Option.some.inj H
      go_enter Try.func92, Try.ntmps92
      go_wp2_with (first | (go_at_call 125; (with_reducible refine (impl_areWithin.calls _ _ l0 1 6 false _ ?side1 ?side2 A3.out).mono ?_); (case side1 => repeat (first | exact HR0.out | (with_reducible refine Kd.C_alloc ?_ _) | (with_reducible refine Kd.C_drewN ?_ _) | (with_reducible refine Kd.C_drew ?_))); (case side2 => exact HC0.out); rintro e w7 ⟨rfl, hb⟩; have n0_ := Aside0.mk (below_step (by repeat (first | (with_reducible first | exact HB.out | apply below_alloc | apply pw_below_drewN | apply below_drew1) | exact HB.out)) hb); clear HB; have HB := n0_; clear n0_; (try clear hb); (try clear hb2); (try clear hk); (try clear hi)))
      go_ret
      exact ⟨by first | rfl | (simp [errW_none, errW_some] <;> rfl) | (simp [*, errW_none, errW_some] <;> rfl), by repeat (first | (with_reducible first | exact HB.out | apply below_alloc | apply pw_below_drewN | apply below_drew1) | exact HB.out)⟩
  · rw [if_neg c2] at H
    have c2b0 : decide ((l0.length : Int) ≤ 4) = false := decide_eq_false c2
    have c2b1 : decide (l0.length ≤ 4) = false := decide_eq_false (by omega)
    clear c2
    obtain rfl := Option.some.inj H
    go_enter Try.func92, Try.ntmps92
    go_wp2
    go_ret
    exact ⟨by first | rfl | (simp [errW_none, errW_some] <;> rfl) | (simp [*, errW_none, errW_some] <;> rfl), by repeat (first | (with_reducible first | exact HB.out | apply below_alloc | apply pw_below_drewN | apply below_drew1) | exact HB.out)⟩

/-! ### impl_within: function 93 -/
def impl_within.f (a0 : Int) (a1 : Int) (a2 : Int) : Option (Bool) := if a1 ≤ a0 then (some (decide (a0 ≤ a2))) else (some false)
set_option maxHeartbeats 8000000 in
set_option maxRecDepth 100000 in
theorem impl_within.calls (a0 : Int) (a1 : Int) (a2 : Int) (r : Bool) (w : World) (h : impl_within.f a0 a1 a2 = some r) :
    Calls Try.prog 93 #[.int .i64 a0, .int .i64 a1, .int .i64 a2] w fun e w' => e = .returned (.bool r) ∧ Drawn0 w w' := by
  have H : (if a1 ≤ a0 then (some (decide (a0 ≤ a2))) else (some false)) = some r := h
  clear h
  by_cases c4 : a1 ≤ a0
  · rw [if_pos c4] at H
    have c4b0 : decide (a1 ≤ a0) = true := decide_eq_true c4
    clear c4
    obtain rfl := Option.some.inj H
    go_enter Try.func93, Try.ntmps93
    go_wp2
    go_ret
    exact ⟨by first | rfl | (simp; done) | (simp [*]; done), by repeat (first | exact Drawn0.refl _ | apply Drawn0.step)⟩
  · rw [if_neg c4] at H
    have c4b0 : decide (a1 ≤ a0) = false := decide_eq_false c4
    clear c4
    obtain rfl := Option.some.inj H
    go_enter Try.func93, Try.ntmps93
    go_wp2
    go_ret
    exact ⟨by first | rfl | (simp; done) | (simp [*]; done), by repeat (first | exact Drawn0.refl _ | apply Drawn0.step)⟩

/-! ### word delete -/
/-- A block behind stores of some cells one behind the other. -/
theorem blk_cells {g : Nat} {t : TypeId} : ∀ (vs : List Value) (o : Nat) (w : World) (cs : Array Value), w.heap[g]? = some (.cells cs t (0, 0)) → ∃ cs', (w.setCells g o vs).heap[g]? = some (.cells cs' t (0, 0)) ∧ cs'.size = cs.size ∧
    ∀ j, j < cs.size → cs'[j]? = if o ≤ j ∧ j < o + vs.length then vs[j - o]? else cs[j]?
  | [], o, w, cs, h => ⟨cs, h, rfl, fun j hj => by rw [if_neg (by simp <;> omega)]⟩
  | v :: vs, o, w, cs, h => by
    obtain ⟨cs', h1, h2, h3⟩ := blk_cells vs (o + 1) (w.setCell ⟨g, o, none⟩ v) _ (blk_set h o v)
    refine ⟨cs', h1, by rw [h2]; simp, fun j hj => ?_⟩
    rw [h3 j (by simpa using hj)]
    by_cases e1 : o + 1 ≤ j ∧ j < o + 1 + vs.length
    · rw [if_pos e1, if_pos (by simp; omega), show j - o = (j - (o + 1)) + 1 by omega, List.getElem?_cons_succ]
    · rw [if_neg e1]
      by_cases e2 : j = o
      · subst e2
        rw [if_pos (by simp), Nat.sub_self]
        simp [hj]
      · rw [if_neg (by simp; omega), Array.getElem?_setIfInBounds_ne (by omega)]
theorem own_cell (w : World) (a : Addr) (u : Value) : w.grownBy (w.setCell a u) (some a.block) :=
  ⟨rfl, rfl, rfl, by simp, fun i hi hne => Below.heap_setCell w a u i (fun e => hne (by rw [e]))⟩
theorem own_cells {g : Nat} : ∀ (vs : List Value) (o : Nat) (w : World), w.grownBy (w.setCells g o vs) (some g)
  | [], o, w => World.grownBy.refl _ _
  | v :: vs, o, w => (own_cell w ⟨g, o, none⟩ v).trans (own_cells vs (o + 1) _)
/-- What a row of one's own holds behind the taking out of element i: its cells moved, the last ones cleared. -/
theorem own_cut {w : World} {base e sz g n cap i : Nat} {xs zs : List Value} (HO : w.ownsRow base e sz (.slice (some ⟨g, 0, none⟩) n cap) n xs) (hi : i < n) (hz : zs.length = sz) :
    ((w.setCells g (i * sz) (xs.drop ((i + 1) * sz))).setCells g ((n - 1) * sz) zs).ownsRow base e sz (.slice (some ⟨g, 0, none⟩) (n - 1) cap) (n - 1) (xs.take (i * sz) ++ xs.drop ((i + 1) * sz)) ∧ w.grownBy ((w.setCells g (i * sz) (xs.drop ((i + 1) * sz))).setCells g ((n - 1) * sz) zs) (some g) := by
  obtain ⟨hl, hx⟩ := HO
  rcases hx with ⟨h, _⟩ | ⟨g', cap', cur, h, hb, hh, hnc, hcm, hcs, hct⟩
  · cases h
  injection h with h1 h2 h3
  injection h1 with h1
  injection h1 with h1
  subst h1
  subst h3
  have e1 : (i + 1) * sz = i * sz + sz := by rw [Nat.add_mul, Nat.one_mul]
  have e2 : n * sz = (n - 1) * sz + sz := by
    have : n = (n - 1) + 1 := by omega
    rw [this, Nat.add_mul, Nat.one_mul]; simp
  have e3 : i * sz ≤ (n - 1) * sz := Nat.mul_le_mul_right _ (by omega)
  have e4 : n * sz ≤ cap * sz := Nat.mul_le_mul_right _ hnc
  obtain ⟨c1, b1, s1, k1⟩ := blk_cells (xs.drop ((i + 1) * sz)) (i * sz) w cur hh
  obtain ⟨c2, b2, s2, k2⟩ := blk_cells zs ((n - 1) * sz) _ c1 b1
  have hld : (xs.drop ((i + 1) * sz)).length = (n - 1) * sz - i * sz := by rw [List.length_drop, hl]; omega
  refine ⟨⟨?_, .inr ⟨g, cap, c2, rfl, hb, b2, by omega, hcm, by rw [s2, s1, hcs], ?_⟩⟩, ?_⟩
  · rw [List.length_append, List.length_take, hld, hl]; omega
  · apply List.ext_getElem?
    intro j
    by_cases hj : j < (n - 1) * sz
    · rw [List.getElem?_take_of_lt hj, Array.getElem?_toList, k2 j (by omega), if_neg (by omega), k1 j (by omega)]
      by_cases hj2 : j < i * sz
      · rw [if_neg (by omega), List.getElem?_append_left (by rw [List.length_take, hl]; omega), List.getElem?_take_of_lt hj2, ← hct, List.getElem?_take_of_lt (by omega), Array.getElem?_toList]
      · rw [if_pos (by omega), List.getElem?_append_right (by rw [List.length_take, hl]; omega), List.length_take, hl, Nat.min_eq_left (by omega)]
    · rw [List.getElem?_eq_none (by rw [List.length_take]; omega), List.getElem?_eq_none (by rw [List.length_append, List.length_take, hld, hl]; omega)]
  · exact World.grownBy.trans (own_cells _ _ _) (own_cells _ _ _)

/-- 'clear' of one element. -/
theorem run_clear_one {P : Program} (w : World) (t e ty : TypeId) (z : Value) (zs : List Value) (ht : P.underlying t = some (.slice e)) (hv : ∀ w, (zeroValue e).run P w = .ok z w) (hz : (Builtin.zeroCells z.cells 1).toList = zs) (h1 : ∀ v ∈ zs, v.oneCell' = true) (b o c : Nat)
    (hc : ∀ j, j < zs.length → (w.cell? ⟨b, o + j, none⟩).isSome = true) (hf : ∀ j, j < zs.length → w.frozen? ⟨b, o + j, none⟩ = false) :
    (Builtin.clear_ #[t] ty #[.slice (some ⟨b, o, none⟩) 1 c]).run P w = .ok (.tuple #[]) (w.setCells b o zs) := by
  have hst := run_storeCells_cells (P := P) b o zs 0 w (by simpa using hc) (by simpa using hf) h1
  simp only [Nat.add_zero] at hst
  simp [Builtin.clear_, run_underlying ht, hv, hz, hst]
theorem own_frozen {w : World} {base e sz g n cap : Nat} {xs : List Value} (HO : w.ownsRow base e sz (.slice (some ⟨g, 0, none⟩) n cap) n xs) : ∀ j, w.frozen? ⟨g, j, none⟩ = false := by
  intro j
  rcases HO.2 with ⟨h, _⟩ | ⟨g', cap', cur, h, _, hh, _⟩
  · cases h
  · injection h with h1
    injection h1 with h1
    injection h1 with h1
    subst h1
    simp [World.frozen?, hh]
theorem reps_erase {α : Type} {R : α → List Value → Prop} {sz : Nat} {ps : List α} {cs : List Value} (h : Reps R sz ps cs) {i : Nat} (hi : i < ps.length) : Reps R sz (ps.eraseIdx i) (cs.take (i * sz) ++ cs.drop ((i + 1) * sz)) := by
  obtain ⟨hl, hr⟩ := h
  have e1 : (i + 1) * sz = i * sz + sz := by rw [Nat.add_mul, Nat.one_mul]
  have e2 : (i + 1) * sz ≤ ps.length * sz := Nat.mul_le_mul_right _ hi
  have e3 : (ps.length - 1) * sz = ps.length * sz - sz := by rw [Nat.sub_mul, Nat.one_mul]
  refine ⟨?_, fun j p hj => ?_⟩
  · rw [List.length_append, List.length_take, List.length_drop, List.length_eraseIdx_of_lt hi, hl, e3]; omega
  · rw [List.getElem?_eraseIdx] at hj
    by_cases c : j < i
    · rw [if_pos c] at hj
      have e4 : (j + 1) * sz ≤ i * sz := Nat.mul_le_mul_right _ c
      have e5 : (j + 1) * sz = j * sz + sz := by rw [Nat.add_mul, Nat.one_mul]
      have e6 : ((cs.take (i * sz) ++ cs.drop ((i + 1) * sz)).drop (j * sz)).take sz = (cs.drop (j * sz)).take sz := by
        rw [List.drop_append_of_le_length (by rw [List.length_take]; omega), List.take_append_of_le_length (by rw [List.length_drop, List.length_take]; omega), List.drop_take, List.take_take, Nat.min_eq_left (by omega)]
      rw [e6]; exact hr j p hj
    · rw [if_neg c] at hj
      have e4 : i * sz ≤ j * sz := Nat.mul_le_mul_right _ (by omega)
      have e6 : ((cs.take (i * sz) ++ cs.drop ((i + 1) * sz)).drop (j * sz)).take sz = (cs.drop ((j + 1) * sz)).take sz := by
        rw [List.drop_append, List.drop_eq_nil_of_le (by rw [List.length_take]; omega), List.nil_append, List.drop_drop, List.length_take, hl, Nat.min_eq_left (by omega)]
        congr 2
        rw [Nat.add_mul j 1 sz]; omega
      rw [e6]; exact hr (j + 1) p hj


/-! ### word hidden -/
-- USES delete
/-- The lists that begin so, with d more pieces at most, none less than p, in order. -/
def hidL : Nat → List Int → Int → List (List Int)
  | 0, l, _ => [l]
  | d + 1, l, p => l :: (List.range (7 - p).toNat).flatMap fun (i : Nat) => hidL d (l ++ [p + (i : Int)]) (p + (i : Int))
/-- Those that go on with p or more. -/
def hidR (d : Nat) (l : List Int) (p : Int) : List (List Int) := (List.range (7 - p).toNat).flatMap fun (i : Nat) => hidL d (l ++ [p + (i : Int)]) (p + (i : Int))
theorem hidR_step (d : Nat) (l : List Int) (p : Int) (h : p ≤ 6) : hidR d l p = hidL d (l ++ [p]) p ++ hidR d l (p + 1) := by
  unfold hidR
  rw [show (7 - p).toNat = (7 - (p + 1)).toNat + 1 by omega, List.range_succ_eq_map, List.flatMap_cons, List.flatMap_map]
  simp only [Int.ofNat_zero, Int.natCast_zero, Int.add_zero, Nat.succ_eq_add_one, Int.natCast_add, Int.natCast_one]
  congr 1
  congr 1
  funext i
  rw [show p + ((i : Int) + 1) = p + 1 + (i : Int) by omega]
theorem hidR_end (d : Nat) (l : List Int) (p : Int) (h : 6 < p) : hidR d l p = [] := by
  unfold hidR
  rw [show (7 - p).toNat = 0 by omega]
  rfl

/-- A step of a region, whatever stands for its being left out. -/
theorem step_E {c : Prop} [Decidable c] {X Y E : Prop} (hc : c) (h : if c then X else Y) : if c then X else E := by
  rw [if_pos hc] at h ⊢
  exact h
/-- A row of one number. -/
theorem C_one {W : World} {b : Nat} {q : Int} (h : W.cell? ⟨b, 0, none⟩ = some (.int .i64 q)) : Kd.C (Kd.int .i64) W (some ⟨b, 0, none⟩) 1 [q] := by
  refine ⟨rfl, by simp, fun _ => ⟨_, rfl, fun j p hj => ?_⟩⟩
  match j, hj with
  | 0, hj =>
    obtain rfl := Option.some.inj hj
    exact ⟨[.int .i64 q], rfl, rfl, fun i u hu => by
      match i, hu with
      | 0, hu => obtain rfl := Option.some.inj hu; exact h⟩


/-! ### impl_MakePuzzle_1: function 94 -/
-- GIVEN loop.example/g01305/impl.MakePuzzle$1 raw=1
-- USES hidden
def nxtZ (z : Int) : Int := (z * 179 + 2081) % 10007
theorem nxtZ_in (z : Int) : 0 ≤ nxtZ z ∧ nxtZ z ≤ 10006 := by unfold nxtZ; omega
set_option maxHeartbeats 2000000 in
theorem next_1 (z nz : Int) (hz : 0 ≤ z ∧ z ≤ 10006) (hnz : nxtZ z = nz) (gS : Nat) (W : World) (hS : W.heap[gS]? = some (.cells #[.int .i64 z] 3 (0, 0))) :
    Calls Try.prog 94 #[.pointer (some ⟨gS, 0, none⟩)] W fun e w' => e = .returned (.int .i64 nz) ∧ w' = W.setCell ⟨gS, 0, none⟩ (.int .i64 nz) := by
  have hw1 : IntKind.i64.wrap (z * 179) = z * 179 := (IntKind.wrap_i64 _).trans (by omega)
  have hw2 : IntKind.i64.wrap (z * 179 + 2081) = z * 179 + 2081 := (IntKind.wrap_i64 _).trans (by omega)
  have hv1 : wrap64 (z * 179) = z * 179 := by unfold wrap64; omega
  have hv2 : wrap64 (z * 179 + 2081) = z * 179 + 2081 := by unfold wrap64; omega
  have ht : Int.tmod (z * 179 + 2081) 10007 = nz := by rw [Int.tmod_eq_emod_of_nonneg (by omega)]; exact hnz
  have HS := Aside0.mk hS
  have hc := (blk_cell hS 0).trans (show (#[.int .i64 z] : Array Value)[0]? = some (.int .i64 z) from rfl)
  have hf := blk_frozen hS 0
  have HP := Aside0.mk (blk_put hS 0 (.int .i64 nz) (cs' := #[.int .i64 nz]) rfl)
  have hc2 : (W.setCell ⟨gS, 0, none⟩ (.int .i64 nz)).cell? ⟨gS, 0, none⟩ = some (.int .i64 nz) := (blk_cell HP.out 0).trans rfl
  clear hS hz hnz
  go_enter Try.func94, Try.ntmps94
  go_wp2
  go_ret
  exact ⟨rfl, rfl⟩


/-! ### impl_MakePuzzle: function 44 -/
-- GIVEN loop.example/g01305/impl.MakePuzzle rounds=1 only=1
-- NEEDS loop.example/g01305/impl.IsHidden ; loop.example/g01305/impl.within ; loop.example/g01305/impl.clueOf ; loop.example/g01305/impl.MakePuzzle$1
def mkArg (z : Int) : Int := if Int.tmod (nxtZ z) 6 = 5 then wrap64 (Int.tmod (nxtZ (nxtZ z)) 6 + 1) else Int.tmod (nxtZ (nxtZ z)) 25
def mkL (k : Nat) (l : List Int) : Nat → Int → List S76 → Option (List S76)
  | 0, _, acc => some acc
  | d + 1, z, acc => (impl_clueOf.f k (Int.tmod (nxtZ z) 6) (mkArg z) l).bind fun r => mkL k l d (nxtZ (nxtZ z)) (acc ++ [⟨r.1, r.2.1, r.2.2⟩])
theorem mkL_mono (k : Nat) (l : List Int) : ∀ (d : Nat) (z : Int) (acc : List S76), LeO (mkL k l d z acc) (mkL (k + 1) l d z acc)
  | 0, _, _, _, h => h
  | d + 1, z, acc, r, h => by
    rw [mkL] at h ⊢
    obtain ⟨x, h1, h2⟩ := Option.bind_eq_some_iff.1 h
    rw [impl_clueOf.mono _ _ _ k x h1, Option.bind_some]
    exact mkL_mono k l d _ _ r h2
def impl_MakePuzzle.f (k : Nat) (l0 : List Int) (a1 a2 : Int) : Option (List S76 × Bool) := (impl_IsHidden.f k l0).bind fun b => if b = true ∧ 0 ≤ a1 ∧ a1 ≤ 6 ∧ 0 ≤ a2 ∧ a2 ≤ 9999 then (mkL k l0 a1.toNat a2 []).bind fun r => some (r, true) else some ([], false)
theorem impl_MakePuzzle.mono : ∀ (l0 : List Int) (a1 a2 : Int) k, LeO (impl_MakePuzzle.f k l0 a1 a2) (impl_MakePuzzle.f (k + 1) l0 a1 a2) := by
  intro l0 a1 a2 k r h
  unfold impl_MakePuzzle.f at h ⊢
  obtain ⟨b, h1, h2⟩ := Option.bind_eq_some_iff.1 h
  rw [impl_IsHidden.mono _ k b h1, Option.bind_some]
  by_cases c : b = true ∧ 0 ≤ a1 ∧ a1 ≤ 6 ∧ 0 ≤ a2 ∧ a2 ≤ 9999
  · rw [if_pos c] at h2 ⊢
    obtain ⟨x, h3, h4⟩ := Option.bind_eq_some_iff.1 h2
    rw [mkL_mono k l0 _ _ _ x h3, Option.bind_some]; exact h4
  · rw [if_neg c] at h2 ⊢; exact h2
theorem within_val (a b c : Int) : impl_within.f a b c = some (decide (b ≤ a ∧ a ≤ c)) := by
  unfold impl_within.f
  by_cases h : b ≤ a
  · rw [if_pos h]; simp [h]
  · rw [if_neg h]; simp [h]
theorem mp_step {gS gR gP base : Nat} {w0 W w6 : World} {z z1 : Int} {v : Value} {acc : List S76} (e : w6 = W.setCell ⟨gS, 0, none⟩ (.int .i64 z1)) (h1 : W.heap[gS]? = some (.cells #[.int .i64 z] 3 (0, 0))) (h2 : W.heap[gR]? = some (.cells #[.slice none 0 0] 31 (0, 0))) (h3 : W.heap[gP]? = some (.cells #[v] 31 (0, 0))) (h4 : Kd.R k76 76 W base (fun _ => True) v acc) (h5 : Below base w0 W) (hb : base ≤ gS) : w6.heap[gS]? = some (.cells #[.int .i64 z1] 3 (0, 0)) ∧ w6.heap[gR]? = some (.cells #[.slice none 0 0] 31 (0, 0)) ∧ w6.heap[gP]? = some (.cells #[v] 31 (0, 0)) ∧ Kd.R k76 76 w6 base (fun _ => True) v acc ∧ Below base w0 w6 := by
  subst e
  exact ⟨blk_put h1 0 _ rfl, blk_far h2 (p := ⟨gS, 0, none⟩) (blk_ne h2 h1 (by decide)) _, blk_far h3 (p := ⟨gS, 0, none⟩) (blk_ne h3 h1 (by decide)) _, Kd.R_set h4 h1 (by decide) 0 _, Below.setCell h5 (p := ⟨gS, 0, none⟩) hb _⟩
set_option maxHeartbeats 8000000 in
set_option maxRecDepth 100000 in
theorem impl_MakePuzzle.calls (k : Nat) (A0 : Option Addr) (c0 : Nat) (l0 : List Int) (a1 a2 : Int) (r1 : List S76) (r2 : Bool) (w : World) (hr0 : Kd.C (Kd.int .i64) w A0 l0.length l0) (hc0 : l0.length ≤ c0) (h : impl_MakePuzzle.f k l0 a1 a2 = some (r1, r2)) :
    Calls Try.prog 44 #[.slice A0 l0.length c0, .int .i64 a1, .int .i64 a2] w fun e w' => ∃ v0_ : Value, e = .returned (.tuple #[.agg #[v0_], .bool r2]) ∧ Kd.R k76 76 w' w.heap.size (fun _ => True) v0_ r1 ∧ Below w.heap.size w w' := by
  have hmf : ∀ (fn : Fn) (first cap : Array Value) (w : World), (Instr.makeFunc fn first cap).run Try.prog w = .ok (.func fn first cap) w := fun _ _ _ _ => rfl
  unfold impl_MakePuzzle.f at h
  obtain ⟨b, hb, h⟩ := Option.bind_eq_some_iff.1 h
  have HB0 := Aside0.mk (below_alloc (below_alloc (Below.refl w.heap.size w) (.cells #[.int .i64 a2] 3)) (.cells #[.slice none 0 0] 31))
  have HXS0 := Aside0.mk (blk_alloc (blk_new w (.cells #[.int .i64 a2] 3)) (.cells #[.slice none 0 0] 31))
  have HXR0 : Aside0 (((w.alloc (.cells #[.int .i64 a2] 3)).alloc (.cells #[.slice none 0 0] 31)).heap[w.heap.size + 1]? = some (.cells #[.slice none 0 0] 31 (0, 0))) := ⟨by have := blk_new (w.alloc (.cells #[.int .i64 a2] 3)) (.cells #[.slice none 0 0] 31); simpa using this⟩
  have HR := Aside0.mk hr0
  have HNB := Aside0.mk hb
  have HWA := Aside0.mk (within_val a1 0 6)
  have HWS := Aside0.mk (within_val a2 0 9999)
  clear hr0 hb
  by_cases c : b = true ∧ 0 ≤ a1 ∧ a1 ≤ 6 ∧ 0 ≤ a2 ∧ a2 ≤ 9999
  case neg =>
    rw [if_neg c] at h
    simp only [Option.some.injEq, Prod.mk.injEq] at h
    obtain ⟨rfl, rfl⟩ := h
    have HCC : Aside0 (¬ (b = true ∧ (decide (0 ≤ a1 ∧ a1 ≤ 6)) = true ∧ (decide (0 ≤ a2 ∧ a2 ≤ 9999)) = true)) := ⟨fun q => c ⟨q.1, (of_decide_eq_true q.2.1).1, (of_decide_eq_true q.2.1).2, (of_decide_eq_true q.2.2).1, (of_decide_eq_true q.2.2).2⟩⟩
    clear c
    generalize (decide (0 ≤ a1 ∧ a1 ≤ 6)) = ba at *
    generalize (decide (0 ≤ a2 ∧ a2 ≤ 9999)) = bs at *
    cases b with
    | false =>
      go_enter Try.func44, Try.ntmps44
      go_wp2_with (go_at_call 92; refine (impl_IsHidden.calls k A0 c0 l0 false _ (Kd.C_below HR.out HB0.out) hc0 HNB.out).mono ?_; rintro e w1 ⟨rfl, hb1⟩; have HB1 := Aside0.mk (below_step HB0.out hb1); have HXR1 := Aside0.mk (blk_below HXR0.out hb1); have hr0 : w1.cell? ⟨w.heap.size + 1, 0, none⟩ = some (.slice none 0 0) := (blk_cell HXR1.out 0).trans rfl; have hr2 := blk_frozen HXR1.out 0; clear hb1)
      refine bodyPost_ret (results_ct rfl _ _ (w.heap.size + 1) 31 #[.slice none 0 0] (0, 0) _ rfl (by repeat (first | exact HXR1.out | refine blk_put (cs := #[.slice none 0 0]) ?_ 0 _ rfl)) Try.underlying31 rfl (by kernel_rfl)) rfl ?_
      exact ⟨_, rfl, Kd.R_nil _ _ _ _ _, by repeat (first | exact HB1.out | refine Below.setCell ?_ (by simp) _)⟩
    | true =>
      cases ba with
      | false =>
        go_enter Try.func44, Try.ntmps44
        go_wp2_with (first
          | (go_at_call 92; refine (impl_IsHidden.calls k A0 c0 l0 true _ (Kd.C_below HR.out HB0.out) hc0 HNB.out).mono ?_; rintro e w1 ⟨rfl, hb1⟩; have HB1 := Aside0.mk (below_step HB0.out hb1); have HXR1 := Aside0.mk (blk_below HXR0.out hb1); clear hb1)
          | ((try (refine gate_guard (by rfl) ?_; dsimp only)); go_at_call 93; refine (impl_within.calls a1 0 6 false _ HWA.out).mono ?_; rintro e w2 ⟨rfl, hd2⟩; have HB2 := Aside0.mk (below_step HB1.out hd2.below); have HXR2 := Aside0.mk (blk_below HXR1.out hd2.below); have hr0 : w2.cell? ⟨w.heap.size + 1, 0, none⟩ = some (.slice none 0 0) := (blk_cell HXR2.out 0).trans rfl; have hr2 := blk_frozen HXR2.out 0; clear hd2))
        refine bodyPost_ret (results_ct rfl _ _ (w.heap.size + 1) 31 #[.slice none 0 0] (0, 0) _ rfl (by repeat (first | exact HXR2.out | refine blk_put (cs := #[.slice none 0 0]) ?_ 0 _ rfl)) Try.underlying31 rfl (by kernel_rfl)) rfl ?_
        exact ⟨_, rfl, Kd.R_nil _ _ _ _ _, by repeat (first | exact HB2.out | refine Below.setCell ?_ (by simp) _)⟩
      | true =>
        have e : bs = false := by cases bs with | false => rfl | true => exact absurd ⟨rfl, rfl, rfl⟩ HCC.out
        subst e
        go_enter Try.func44, Try.ntmps44
        go_wp2_with ((try (refine gate_guard (by rfl) ?_; dsimp only)); first
          | (go_at_call 92; refine (impl_IsHidden.calls k A0 c0 l0 true _ (Kd.C_below HR.out HB0.out) hc0 HNB.out).mono ?_; rintro e w1 ⟨rfl, hb1⟩; have HB1 := Aside0.mk (below_step HB0.out hb1); have HXR1 := Aside0.mk (blk_below HXR0.out hb1); have HXS1 := Aside0.mk (blk_below HXS0.out hb1); clear hb1; refine Aside0.out ?_))
        refine Aside0.mk ?_
        go_wp2_with ((try (refine gate_guard (by rfl) ?_; dsimp only)); go_at_call 93; refine (impl_within.calls a1 0 6 true _ HWA.out).mono ?_; rintro e w2 ⟨rfl, hd2⟩; have HB2 := Aside0.mk (below_step HB1.out hd2.below); have HXR2 := Aside0.mk (blk_below HXR1.out hd2.below); have HXS2 := Aside0.mk (blk_below HXS1.out hd2.below); have hs0 : w2.cell? ⟨w.heap.size, 0, none⟩ = some (.int .i64 a2) := (blk_cell HXS2.out 0).trans rfl; clear hd2; refine Aside0.out ?_)
        refine Aside0.mk ?_
        go_wp2_with ((try (refine gate_guard (by rfl) ?_; dsimp only)); go_at_call 93; refine (impl_within.calls a2 0 9999 false _ HWS.out).mono ?_; rintro e w3 ⟨rfl, hd3⟩; have HB3 := Aside0.mk (below_step HB2.out hd3.below); have HXR3 := Aside0.mk (blk_below HXR2.out hd3.below); have hr0 : w3.cell? ⟨w.heap.size + 1, 0, none⟩ = some (.slice none 0 0) := (blk_cell HXR3.out 0).trans rfl; have hr2 := blk_frozen HXR3.out 0; clear hd3 hs0)
        refine bodyPost_ret (results_ct rfl _ _ (w.heap.size + 1) 31 #[.slice none 0 0] (0, 0) _ rfl (by repeat (first | exact HXR3.out | refine blk_put (cs := #[.slice none 0 0]) ?_ 0 _ rfl)) Try.underlying31 rfl (by kernel_rfl)) rfl ?_
        exact ⟨_, rfl, Kd.R_nil _ _ _ _ _, by repeat (first | exact HB3.out | refine Below.setCell ?_ (by simp) _)⟩
  case pos =>
    rw [if_pos c] at h
    obtain ⟨res, hmk, h⟩ := Option.bind_eq_some_iff.1 h
    simp only [Option.some.injEq, Prod.mk.injEq] at h
    obtain ⟨rfl, rfl⟩ := h
    obtain ⟨rfl, ca⟩ := c
    rw [decide_eq_true ⟨ca.1, ca.2.1⟩] at HWA
    rw [decide_eq_true ⟨ca.2.2.1, ca.2.2.2⟩] at HWS
    obtain ⟨m, rfl⟩ := Int.eq_ofNat_of_zero_le ca.1
    rw [Int.toNat_natCast] at hmk
    have HCA := Aside0.mk ca
    have HMK := Aside0.mk hmk
    clear hmk ca
    go_enter Try.func44, Try.ntmps44
    go_wp2_with (go_at_call 92; refine (impl_IsHidden.calls k A0 c0 l0 true _ (Kd.C_below HR.out HB0.out) hc0 HNB.out).mono ?_; rintro e w1 ⟨rfl, hb1⟩; have HB1 := Aside0.mk (below_step HB0.out hb1); have HXR1 := Aside0.mk (blk_below HXR0.out hb1); have HXS1 := Aside0.mk (blk_below HXS0.out hb1); clear hb1; refine Aside0.out ?_)
    refine Aside0.mk ?_
    go_wp2_with ((try (refine gate_guard (by rfl) ?_; dsimp only)); go_at_call 93; refine (impl_within.calls m 0 6 true _ HWA.out).mono ?_; rintro e w2 ⟨rfl, hd2⟩; have HB2 := Aside0.mk (below_step HB1.out hd2.below); have HXR2 := Aside0.mk (blk_below HXR1.out hd2.below); have HXS2 := Aside0.mk (blk_below HXS1.out hd2.below); have hs0 : w2.cell? ⟨w.heap.size, 0, none⟩ = some (.int .i64 a2) := (blk_cell HXS2.out 0).trans rfl; clear hd2; refine Aside0.out ?_)
    refine Aside0.mk ?_
    go_wp2_with (first
      | ((try (refine gate_guard (by rfl) ?_; dsimp only)); go_at_call 93; refine (impl_within.calls a2 0 9999 true _ HWS.out).mono ?_; rintro e w3 ⟨rfl, hd3⟩; have HB3 := Aside0.mk (below_step HB2.out hd3.below); have HXR3 := Aside0.mk (blk_below HXR2.out hd3.below); have HXS3 := Aside0.mk (blk_below HXS2.out hd3.below); clear hd3 hs0)
      | ((with_reducible refine gate_dst (N := 28) rfl ?_); refine Kd.R_lit k76 (w0 := w) w.heap.size 76 ?hg (N := 28) ?hd (xs := []) (inner := []) (ok := fun _ => True) (okp := fun _ => True) ?hr ?hp (fun _ hk => hk) trivial HB3.out HB3.out.size (by simp) ?_; (case hd => rfl); (case hg => rfl); (case hr => first | (go_simp; done) | (go_simp; rfl)); (case hp => exact (Reps.none _ _)); intro v4 w4 ho4 hb4 hg4 hnew4; obtain ⟨A4, c4, rfl⟩ := Kd.R_slice ho4; have HO4 := Aside0.mk ho4; have HB4 := Aside0.mk hb4; have HXR4 := Aside0.mk (blk_grown HXR3.out hg4 (by simp)); have HXS4 := Aside0.mk (blk_grown HXS3.out hg4 (by simp)); clear ho4 hb4 hg4 hnew4))
    have HB5 := Aside0.mk (below_alloc HB4.out (.cells #[.slice A4 0 c4] 31))
    have HXS5 := Aside0.mk (blk_alloc HXS4.out (.cells #[.slice A4 0 c4] 31))
    have HXR5 := Aside0.mk (blk_alloc HXR4.out (.cells #[.slice A4 0 c4] 31))
    have HXP5 := Aside0.mk (blk_new w4 (.cells #[.slice A4 0 c4] 31))
    have HO5 := Aside0.mk (Kd.R_alloc HO4.out (.cells #[.slice A4 0 c4] 31))
    obtain ⟨gP, egP⟩ : ∃ g, g = w4.heap.size := ⟨_, rfl⟩
    have HGP : Aside0 (w.heap.size ≤ gP ∧ gP ≠ w.heap.size ∧ gP ≠ w.heap.size + 1) := ⟨by
      have h1 := blk_lt HXR4.out
      subst egP
      exact ⟨by omega, by omega, by omega⟩⟩
    rw [← egP] at HXP5 ⊢
    generalize (w4.alloc (.cells #[.slice A4 0 c4] 31)) = w5 at *
    clear HO4 HB4 HXS4 HXR4 egP HXS0 HXR0 HXS1 HXR1 HXS2 HXR2 HXS3 HXR3 HB0 HB1 HB2 HB3
    go_loopg [31] m (fun gg v31 wr => ∃ (i : Nat) (z : Int) (acc : List S76) (A : Option Addr) (c : Nat), v31 = .int .i64 i ∧ Aside0 (i ≤ m ∧ m - i ≤ gg ∧ 0 ≤ z ∧ z ≤ 10006 ∧ acc.length = i ∧ mkL k l0 (m - i) z acc = some res) ∧ Aside0 (wr.heap[w.heap.size]? = some (.cells #[.int .i64 z] 3 (0, 0))) ∧ Aside0 (wr.heap[w.heap.size + 1]? = some (.cells #[.slice none 0 0] 31 (0, 0))) ∧ Aside0 (wr.heap[gP]? = some (.cells #[.slice A acc.length c] 31 (0, 0))) ∧ Aside0 (Kd.R k76 76 wr w.heap.size (fun _ => True) (.slice A acc.length c) acc) ∧ Aside0 (Below w.heap.size w wr))
    case atStart => exact ⟨0, a2, [], A4, c4, rfl, ⟨by omega, by omega, HCA.out.2.2.1, by have := HCA.out.2.2.2; omega, rfl, HMK.out⟩, HXS5, HXR5, HXP5, HO5, HB5⟩
    case round =>
      obtain ⟨i, z, acc, A, c, rfl, HQ, HXS, HXR, HXP, HO, HB⟩ := hrel
      by_cases hlt : (i : Int) < (m : Int)
      · have hlt0 := decide_eq_true hlt
        have hltN : decide (i < m) = true := decide_eq_true (by omega)
        have hw : wrap64 ((i : Int) + 1) = ((i + 1 : Nat) : Int) := by have := HCA.out; unfold wrap64; omega
        obtain ⟨q1, q2, q3, q4, q5, q6⟩ := HQ.out
        obtain ⟨d, hd⟩ : ∃ d, m - i = d + 1 := ⟨m - i - 1, by omega⟩
        rw [hd, mkL] at q6
        obtain ⟨⟨x1, x2, x3⟩, hcl, q6⟩ := Option.bind_eq_some_iff.1 q6
        dsimp only at q6
        obtain ⟨z1, ez1⟩ : ∃ z1, z1 = nxtZ z := ⟨_, rfl⟩
        obtain ⟨z2, ez2⟩ : ∃ z2, z2 = nxtZ z1 := ⟨_, rfl⟩
        have hz1 := nxtZ_in z
        have hz2 := nxtZ_in z1
        unfold mkArg at hcl
        rw [← ez1] at hcl hz1 q6
        rw [← ez2] at hcl hz2 q6
        have HZ0 := Aside0.mk (And.intro q3 q4)
        have HZ1 := Aside0.mk hz1
        have HZ2 := Aside0.mk hz2
        have HE1 := Aside0.mk ez1
        have HE2 := Aside0.mk ez2
        have HCL := Aside0.mk hcl
        have HQ2 : Aside0 (i < m ∧ m - i ≤ gk ∧ acc.length = i ∧ m - (i + 1) = d ∧ mkL k l0 d z2 (acc ++ [⟨x1, x2, x3⟩]) = some res) := ⟨⟨by omega, q2, q5, by omega, q6⟩⟩
        clear q1 q2 q3 q4 q5 q6 hz1 hz2 ez1 ez2 hd hcl
        go_wp2_with (go_at_call 94; refine (next_1 z z1 HZ0.out HE1.out.symm w.heap.size _ (by first | exact HXS.out | exact blk_drew HXS.out)).mono ?_; rintro e w6 ⟨rfl, e6⟩; obtain ⟨a6, b6, c6, d6, f6⟩ := mp_step e6 HXS.out HXR.out HXP.out HO.out HB.out (Nat.le_refl _); have HXS6 := Aside0.mk a6; have HXR6 := Aside0.mk b6; have HXP6 := Aside0.mk c6; have HO6 := Aside0.mk d6; have HB6 := Aside0.mk f6; clear e6 a6 b6 c6 d6 f6; refine Aside0.out ?_)
        refine Aside0.mk ?_
        obtain ⟨y, ey⟩ : ∃ y, y = Int.tmod z1 6 := ⟨_, rfl⟩
        have hy6 := ey.symm
        have HX : Aside0 (∃ x, x = (if y = 5 then wrap64 (Int.tmod z2 6 + 1) else Int.tmod z2 25) ∧ impl_clueOf.f k y x l0 = some (x1, x2, x3)) := ⟨by have h := HCL.out; rw [← ey] at h; exact ⟨_, rfl, h⟩⟩
        clear ey
        obtain ⟨x, ex, hcl2⟩ := HX.out
        have HCL2 := Aside0.mk hcl2
        clear hcl2
        by_cases c5 : y = 5
        all_goals
          (first
            | (rw [if_pos c5] at ex
               have hd5 := decide_eq_true c5
               have hq5 : (y == 5) = true := beq_iff_eq.2 c5
               have hx1 : IntKind.i64.wrap (Int.tmod z2 6 + 1) = x := by rw [IntKind.wrap_i64, ex]; first | rfl | (unfold wrap64; omega)
               have hx2 : wrap64 (Int.tmod z2 6 + 1) = x := ex.symm)
            | (rw [if_neg c5] at ex
               have hd5 := decide_eq_false c5
               have hq5 : (y == 5) = false := by simp [c5]
               have hx2 : Int.tmod z2 25 = x := ex.symm))
          clear ex c5
          go_wp2_with (go_at_call 94; refine (next_1 z1 z2 HZ1.out HE2.out.symm w.heap.size _ (by first | exact HXS6.out | exact blk_drew HXS6.out)).mono ?_; rintro e w7 ⟨rfl, e7⟩; obtain ⟨a7, b7, c7, d7, f7⟩ := mp_step e7 HXS6.out HXR6.out HXP6.out HO6.out HB6.out (Nat.le_refl _); have HXS7 := Aside0.mk a7; have HXR7 := Aside0.mk b7; have HXP7 := Aside0.mk c7; have HO7 := Aside0.mk d7; have HB7 := Aside0.mk f7; clear e7 a7 b7 c7 d7 f7)
          have hp7 : w7.cell? ⟨gP, 0, none⟩ = some (.slice A acc.length c) := (blk_cell HXP7.out 0).trans rfl
          have HC7 := Aside0.mk (Kd.C_below HR.out HB7.out)
          go_region_law (first
            | (go_simp; go_at_call 62; refine (impl_clueOf.calls k y x A0 c0 l0 x1 x2 x3 _ (by first | exact HC7.out | exact Kd.C_drew HC7.out | exact Kd.C_drewN HC7.out _) hc0 HCL2.out).mono ?_; rintro e w8 ⟨rfl, hb8⟩; have HB8 : Aside0 (Below w7.heap.size w7 w8) := ⟨by first | exact hb8 | exact below_step (below_drew (Below.refl _ _)) hb8⟩; have hp8 : w8.cell? ⟨gP, 0, none⟩ = some (.slice A acc.length c) := pw_cell_below HB8.out hp7; have hp8a : (w8.alloc (.cells #[.int .i64 x1, .int .i64 x2, .int .i64 x3] 76)).cell? ⟨gP, 0, none⟩ = some (.slice A acc.length c) := (blk_cell (blk_alloc (blk_below HXP7.out HB8.out) _) 0).trans rfl; clear hb8)
            | (refine step_E (by rfl) (Kd.R_append_step k76 (w0 := w) w.heap.size (by rfl) (.tmp 46) (.tmp 51) 29 76 (.agg #[(.int .i64 0), (.int .i64 0), (.int .i64 0)]) 24 rfl Try.underlying29 info76 rfl (by decide) (by omega) (.slice A acc.length c) acc (⟨x1, x2, x3⟩ : S76) [.int .i64 x1, .int .i64 x2, .int .i64 x3] (fun _ => True) (fun _ => False) rfl rfl ?aP (fun _ hk => hk.elim) (fun _ _ => trivial) ?aO ?aB ?aS ?aL ?_); (case aP => exact k76_mkM _ _ _ (⟨x1, x2, x3⟩ : S76)); (case aO => exact Kd.R_below HO7.out HB8.out); (case aB => exact below_then HB7.out HB7.out.size HB8.out); (case aS => exact Nat.le_trans HB7.out.size HB8.out.size); (case aL => have := HQ2.out; have := HCA.out; omega); intro v9 w9 ho hb hg hat; obtain ⟨A9, c9, rfl⟩ := Kd.R_slice ho; have HNE := fun {o} (h : w8.heap[gP]? = some (.cells o 31 (0, 0))) => Kd.R_ne (Kd.R_below HO7.out HB8.out) h (by decide); have HXP9 := Aside0.mk (blk_grown (blk_below HXP7.out HB8.out) hg (Kd.R_ne (Kd.R_below HO7.out HB8.out) (blk_below HXP7.out HB8.out) (by decide))); have HXR9 := Aside0.mk (blk_grown (blk_below HXR7.out HB8.out) hg (Kd.R_ne (Kd.R_below HO7.out HB8.out) (blk_below HXR7.out HB8.out) (by decide))); have HXS9 := Aside0.mk (blk_grown (blk_below HXS7.out HB8.out) hg (Kd.R_ne (Kd.R_below HO7.out HB8.out) (blk_below HXS7.out HB8.out) (by decide))); have hp9 : w9.cell? ⟨gP, 0, none⟩ = some (.slice A acc.length c) := (blk_cell HXP9.out 0).trans rfl; have hf9 := blk_frozen HXP9.out 0; have HO9 := Aside0.mk ho; have HB9 := Aside0.mk hb; clear HNE hb ho hg hat))
          all_goals
            go_wp2
            go_roundg (gk - 1)
            case measure => have := HQ2.out; omega
            case rel =>
              refine ⟨i + 1, z2, acc ++ [⟨x1, x2, x3⟩], A9, c9, (by first | rfl | rw [hw]), ⟨?_⟩, ⟨?_⟩, ⟨?_⟩, ⟨?_⟩, ⟨?_⟩, ⟨?_⟩⟩
              · have h := HQ2.out; have hz := HZ2.out; exact ⟨by omega, by omega, hz.1, hz.2, by simp; omega, by rw [h.2.2.2.1]; exact h.2.2.2.2⟩
              · exact blk_far HXS9.out (p := ⟨gP, 0, none⟩) (Ne.symm HGP.out.2.1) _
              · exact blk_far HXR9.out (p := ⟨gP, 0, none⟩) (Ne.symm HGP.out.2.2) _
              · simp only [List.length_append, List.length_singleton]; exact blk_put HXP9.out 0 _ rfl
              · simp only [List.length_append, List.length_singleton] at HO9 ⊢; exact Kd.R_set HO9.out HXP9.out (by decide) 0 _
              · exact Below.setCell HB9.out (p := ⟨gP, 0, none⟩) HGP.out.1 _
      · have e : i = m := by have := HQ.out; omega
        subst e
        have hlt0 := decide_eq_false hlt
        have hltN : decide (i < i) = false := decide_eq_false (by omega)
        obtain ⟨q1, q2, q3, q4, q5, q6⟩ := HQ.out
        rw [Nat.sub_self] at q6
        injection q6 with q6
        subst q6
        clear q1 q2 q3 q4 q5
        have hp : wr.cell? ⟨gP, 0, none⟩ = some (.slice A acc.length c) := (blk_cell HXP.out 0).trans rfl
        have hr0 : wr.cell? ⟨w.heap.size + 1, 0, none⟩ = some (.slice none 0 0) := (blk_cell HXR.out 0).trans rfl
        have hr2 := blk_frozen HXR.out 0
        go_wp2
        refine bodyPost_ret (results_ct rfl _ _ (w.heap.size + 1) 31 #[.slice A acc.length c] (0, 0) _ rfl (blk_put HXR.out 0 _ rfl) Try.underlying31 rfl (by kernel_rfl)) rfl ?_
        exact ⟨_, rfl, Kd.R_set HO.out HXR.out (by decide) 0 _, Below.setCell HB.out (p := ⟨w.heap.size + 1, 0, none⟩) (by simp) _⟩


/-! ### laws_heldClueS: function 95 -/
def laws_heldClueS.l0 : Nat → List (S76) → Int → Int → Option (Int)
  | 0, _, _, _ => none
  | k + 1, x0, x1, x5 => if x5 < (x0.length : Int) then (if 0 ≤ x5 then (if ((rd_T76 x0 x5).f0) = x1 then (if ((rd_T76 x0 x5).f1) = (wrap64 (x1 + 1)) then (if ((rd_T76 x0 x5).f2) = (wrap64 ((wrap64 (x1 + 1)) + 1)) then (laws_heldClueS.l0 k x0 (wrap64 ((wrap64 ((wrap64 (x1 + 1)) + 1)) + 1)) (wrap64 (x5 + 1))) else (some (-1))) else (some (-1))) else (some (-1))) else (none)) else (some x1)
def laws_heldClueS.f (k : Nat) (l0 : List (S76)) (a1 : Int) : Option (Int) := laws_heldClueS.l0 k l0 a1 0
theorem laws_heldClueS.mono_l : ∀ k, (∀ y0 y1 y2, LeO (laws_heldClueS.l0 k y0 y1 y2) (laws_heldClueS.l0 (k + 1) y0 y1 y2))
  | 0 => fun _ _ _ r h => by simp [laws_heldClueS.l0] at h
  | k + 1 => by
    have ih0 := laws_heldClueS.mono_l k
    · intro y0 y1 y2
      unfold laws_heldClueS.l0
      repeat' first
      | (with_reducible exact ih0 _ _ _)
      | (with_reducible exact LeO.refl _)
      | (with_reducible exact LeO.none _)
      | (with_reducible refine LeO.ite ?_ ?_)
      | (with_reducible refine LeO.bind ?_ (fun _ => ?_))
      | exact ih0 _ _ _
      | exact LeO.none _
      | refine LeO.ite ?_ ?_
      | refine LeO.bind ?_ (fun _ => ?_)
theorem laws_heldClueS.mono : ∀ a0 a1 k, LeO (laws_heldClueS.f k a0 a1) (laws_heldClueS.f (k + 1) a0 a1) := by
  intro a0 a1 k
  have ih0 := laws_heldClueS.mono_l k
  unfold laws_heldClueS.f
  repeat' first
      | (with_reducible exact ih0 _ _ _)
      | (with_reducible exact LeO.refl _)
      | (with_reducible exact LeO.none _)
      | (with_reducible refine LeO.ite ?_ ?_)
      | (with_reducible refine LeO.bind ?_ (fun _ => ?_))
      | exact ih0 _ _ _
      | exact LeO.none _
      | refine LeO.ite ?_ ?_
      | refine LeO.bind ?_ (fun _ => ?_)
set_option maxHeartbeats 8000000 in
set_option maxRecDepth 100000 in
theorem laws_heldClueS.calls (k : Nat) (A0 : Option Addr) (c0 : Nat) (l0 : List (S76)) (a1 : Int) (r : Int) (w : World) (hr0 : Kd.C k76 w A0 l0.length l0) (hc0 : l0.length ≤ c0) (h : laws_heldClueS.f k l0 a1 = some r) :
    Calls Try.prog 95 #[.slice A0 l0.length c0, .int .i64 a1] w fun e w' => e = .returned (.int .i64 r) ∧ Drawn0 w w' := by
  have HR0 := Aside0.mk hr0
  have HC0 := Aside0.mk hc0
  clear hr0 hc0
  have H : (laws_heldClueS.l0 k l0 a1 0) = some r := h
  clear h
  have H' := Aside0.mk H
  clear H
  go_enter Try.func95, Try.ntmps95
  go_wp2
  go_loopg [1, 5] k (fun kq v1 v5 w' => ∃ (x1_1 : Int) (x5_1 : Int), v1 = .int .i64 x1_1 ∧ v5 = .int .i64 x5_1 ∧ Aside0 (laws_heldClueS.l0 kq l0 x1_1 x5_1 = some r) ∧ Aside0 (kq ≤ k) ∧ Drawn0 w w')
  case atStart => exact ⟨(a1), (0), (by first | rfl | (simp; done) | (simp [*]; done)), (by first | rfl | (simp; done) | (simp [*]; done)), H', ⟨Nat.le_refl _⟩, by repeat (first | exact Drawn0.refl _ | apply Drawn0.step)⟩
  case round =>
    clear H'
    try clear p2
    obtain ⟨x1_1, x5_1, rfl, rfl, HA, HK1, ⟨m1, rfl⟩⟩ := hrel
    cases gk with
    | zero => exact absurd HA.out (by simp [laws_heldClueS.l0])
    | succ k1 =>
      have H := HA.out
      clear HA
      simp only [laws_heldClueS.l0] at H
      by_cases c3 : x5_1 < (l0.length : Int)
      · rw [if_pos c3] at H
        have c3b0 : decide (x5_1 < (l0.length : Int)) = true := decide_eq_true c3
        clear c3
        by_cases c4 : 0 ≤ x5_1
        · rw [if_pos c4] at H
          have c4b0 : decide (0 ≤ x5_1) = true := decide_eq_true c4
          clear c4
          by_cases c5 : ((rd_T76 l0 x5_1).f0) = x1_1
          · rw [if_pos c5] at H
            have c5b0 : (((rd_T76 l0 x5_1).f0) == x1_1) = true := beq_iff_eq.mpr c5
            have c5b1 : (((rd_T76 l0 x5_1).f0) != x1_1) = false := bne_eq_false_iff_eq.mpr c5
            clear c5
            by_cases c6 : ((rd_T76 l0 x5_1).f1) = (wrap64 (x1_1 + 1))
            · rw [if_pos c6] at H
              have c6b0 : (((rd_T76 l0 x5_1).f1) == (wrap64 (x1_1 + 1))) = true := beq_iff_eq.mpr c6
              have c6b1 : (((rd_T76 l0 x5_1).f1) != (wrap64 (x1_1 + 1))) = false := bne_eq_false_iff_eq.mpr c6
              clear c6
              by_cases c7 : ((rd_T76 l0 x5_1).f2) = (wrap64 ((wrap64 (x1_1 + 1)) + 1))
              · rw [if_pos c7] at H
                have c7b0 : (((rd_T76 l0 x5_1).f2) == (wrap64 ((wrap64 (x1_1 + 1)) + 1))) = true := beq_iff_eq.mpr c7
                have c7b1 : (((rd_T76 l0 x5_1).f2) != (wrap64 ((wrap64 (x1_1 + 1)) + 1))) = false := bne_eq_false_iff_eq.mpr c7
                clear c7
                have H' := Aside0.mk H
                clear H
                have p203 : 0 ≤ (x5_1 : Int) := of_decide_eq_true (by first | (with_reducible assumption) | assumption)
                have q203 : x5_1 < (l0.length : Int) := of_decide_eq_true (by first | (with_reducible assumption) | assumption)
                obtain ⟨ad203, e203, hx203_0, hx203_1, hx203_2⟩ := at_T76 HR0.out x5_1 p203 q203
                cases e203
                replace p203 := eq_true p203
                replace q203 := eq_true q203
                have p204 : 0 ≤ (x5_1 : Int) := of_decide_eq_true (by first | (with_reducible assumption) | assumption)
                have q204 : x5_1 < (l0.length : Int) := of_decide_eq_true (by first | (with_reducible assumption) | assumption)
                obtain ⟨ad204, e204, hx204_0, hx204_1, hx204_2⟩ := at_T76 HR0.out x5_1 p204 q204
                obtain rfl : ad203 = ad204 := (by injection e204)
                replace p204 := eq_true p204
                replace q204 := eq_true q204
                have p205 : 0 ≤ (x5_1 : Int) := of_decide_eq_true (by first | (with_reducible assumption) | assumption)
                have q205 : x5_1 < (l0.length : Int) := of_decide_eq_true (by first | (with_reducible assumption) | assumption)
                obtain ⟨ad205, e205, hx205_0, hx205_1, hx205_2⟩ := at_T76 HR0.out x5_1 p205 q205
                obtain rfl : ad203 = ad205 := (by injection e205)
                replace p205 := eq_true p205
                replace q205 := eq_true q205
                go_wp2
                go_roundg k1
                case measure => have := HK1.out; omega
                case rel => exact ⟨(wrap64 ((wrap64 ((wrap64 (x1_1 + 1)) + 1)) + 1)), (wrap64 (x5_1 + 1)), (by first | rfl | (simp; done) | (simp [*]; done)), (by first | rfl | (simp; done) | (simp [*]; done)), H', ⟨by have := HK1.out; omega⟩, by repeat (first | exact Drawn0.refl _ | apply Drawn0.step)⟩
              · rw [if_neg c7] at H
                have c7b0 : (((rd_T76 l0 x5_1).f2) == (wrap64 ((wrap64 (x1_1 + 1)) + 1))) = false := beq_eq_false_iff_ne.mpr c7
                have c7b1 : (((rd_T76 l0 x5_1).f2) != (wrap64 ((wrap64 (x1_1 + 1)) + 1))) = true := bne_iff_ne.mpr c7
                obtain rfl := Option.some.inj H
                have p203 : 0 ≤ (x5_1 : Int) := of_decide_eq_true (by first | (with_reducible assumption) | assumption)
                have q203 : x5_1 < (l0.length : Int) := of_decide_eq_true (by first | (with_reducible assumption) | assumption)
                obtain ⟨ad203, e203, hx203_0, hx203_1, hx203_2⟩ := at_T76 HR0.out x5_1 p203 q203
                cases e203
                replace p203 := eq_true p203
                replace q203 := eq_true q203
                have p204 : 0 ≤ (x5_1 : Int) := of_decide_eq_true (by first | (with_reducible assumption) | assumption)
                have q204 : x5_1 < (l0.length : Int) := of_decide_eq_true (by first | (with_reducible assumption) | assumption)
                obtain ⟨ad204, e204, hx204_0, hx204_1, hx204_2⟩ := at_T76 HR0.out x5_1 p204 q204
                obtain rfl : ad203 = ad204 := (by injection e204)
                replace p204 := eq_true p204
                replace q204 := eq_true q204
                have p205 : 0 ≤ (x5_1 : Int) := of_decide_eq_true (by first | (with_reducible assumption) | assumption)
                have q205 : x5_1 < (l0.length : Int) := of_decide_eq_true (by first | (with_reducible assumption) | assumption)
                obtain ⟨ad205, e205, hx205_0, hx205_1, hx205_2⟩ := at_T76 HR0.out x5_1 p205 q205
                obtain rfl : ad203 = ad205 := (by injection e205)
                replace p205 := eq_true p205
                replace q205 := eq_true q205
                go_wp2
                go_ret
                exact ⟨by first | rfl | (simp; done) | (simp [*]; done), by repeat (first | exact Drawn0.refl _ | apply Drawn0.step)⟩
            · rw [if_neg c6] at H
              have c6b0 : (((rd_T76 l0 x5_1).f1) == (wrap64 (x1_1 + 1))) = false := beq_eq_false_iff_ne.mpr c6
              have c6b1 : (((rd_T76 l0 x5_1).f1) != (wrap64 (x1_1 + 1))) = true := bne_iff_ne.mpr c6
              obtain rfl := Option.some.inj H
              have p203 : 0 ≤ (x5_1 : Int) := of_decide_eq_true (by first | (with_reducible assumption) | assumption)
              have q203 : x5_1 < (l0.length : Int) := of_decide_eq_true (by first | (with_reducible assumption) | assumption)
              obtain ⟨ad203, e203, hx203_0, hx203_1, hx203_2⟩ := at_T76 HR0.out x5_1 p203 q203
              cases e203
              replace p203 := eq_true p203
              replace q203 := eq_true q203
              have p204 : 0 ≤ (x5_1 : Int) := of_decide_eq_true (by first | (with_reducible assumption) | assumption)
              have q204 : x5_1 < (l0.length : Int) := of_decide_eq_true (by first | (with_reducible assumption) | assumption)
              obtain ⟨ad204, e204, hx204_0, hx204_1, hx204_2⟩ := at_T76 HR0.out x5_1 p204 q204
              obtain rfl : ad203 = ad204 := (by injection e204)
              replace p204 := eq_true p204
              replace q204 := eq_true q204
              go_wp2
              go_ret
              exact ⟨by first | rfl | (simp; done) | (simp [*]; done), by repeat (first | exact Drawn0.refl _ | apply Drawn0.step)⟩
          · rw [if_neg c5] at H
            have c5b0 : (((rd_T76 l0 x5_1).f0) == x1_1) = false := beq_eq_false_iff_ne.mpr c5
            have c5b1 : (((rd_T76 l0 x5_1).f0) != x1_1) = true := bne_iff_ne.mpr c5
            obtain rfl := Option.some.inj H
            have p203 : 0 ≤ (x5_1 : Int) := of_decide_eq_true (by first | (with_reducible assumption) | assumption)
            have q203 : x5_1 < (l0.length : Int) := of_decide_eq_true (by first | (with_reducible assumption) | assumption)
            obtain ⟨ad203, e203, hx203_0, hx203_1, hx203_2⟩ := at_T76 HR0.out x5_1 p203 q203
            cases e203
            replace p203 := eq_true p203
            replace q203 := eq_true q203
            go_wp2
            go_ret
            exact ⟨by first | rfl | (simp; done) | (simp [*]; done), by repeat (first | exact Drawn0.refl _ | apply Drawn0.step)⟩
        · rw [if_neg c4] at H
          exact absurd H (by simp)
      · rw [if_neg c3] at H
        have c3b0 : decide (x5_1 < (l0.length : Int)) = false := decide_eq_false c3
        clear c3
        obtain rfl := Option.some.inj H
        go_wp2
        go_ret
        exact ⟨by first | rfl | (simp; done) | (simp [*]; done), by repeat (first | exact Drawn0.refl _ | apply Drawn0.step)⟩

end Go.Proofs.Ytfiikhdkohgmfaa.PFnExactMakePuzzle
