-- MADE FOR THIS CLAIM by wip/xp/xprint.py (with the kit's print; some functions' contracts proved by hand)
import Derived.Test.YtbpmakcgiepkhaaShelf
import Derived.Sort.OwnSortedInts
import Derived.Test.YtbpmakcgiepkhaaPFnExactFirstCutsx0
import Derived.Test.YtbpmakcgiepkhaaPFnExactFirstCutsx1
import Derived.Test.YtbpmakcgiepkhaaPFnExactFirstCutsx2
namespace Go.Proofs.Ytbpmakcgiepkhaa.PFnExactFirstCuts
open Go.RowKit Go.Proofs.YtbpmakcgiepkhaaW.PrintWords Go.Proofs.YtbpmakcgiepkhaaW.PrintLast Go.Proofs.YtbpmakcgiepkhaaW.PrintMore
attribute [local go_sem] max2_int min2_int max_two min_two max_three min_three max_four min_four   -- for this text's walks alone
set_option linter.unusedVariables false
set_option linter.unusedSimpArgs false

/-! ### spec_chAll: function 14 -/
-- GIVEN loop.example/g01305/spec.chAll rounds=1 only=1
-- NEEDS loop.example/g01305/spec.chFewest ; loop.example/g01305/spec.chLook
/-- All cuts that pay, if that can be told of each. -/
def chAllO (k : Nat) (links many : Int) : Option (List (List Int)) := if 0 ≤ links ∧ links ≤ 1000 ∧ 0 ≤ many ∧ many ≤ 1000 ∧ (combL links many.toNat [] 0).all (fun l => (spec_chPay.f k links l).isSome) = true ∧ ((combL links many.toNat [] 0).filter (payS k links)).length ≤ 1000000 then some ((combL links many.toNat [] 0).filter (payS k links)) else none
def spec_chAll.f (k : Nat) (links : Int) : Option (List (List Int)) := (spec_chFewest.f k links).bind fun many => chAllO k links many
theorem chAllO_mono (k : Nat) (links many : Int) : LeO (chAllO k links many) (chAllO (k + 1) links many) := by
  intro r h
  unfold chAllO at h ⊢
  by_cases c : 0 ≤ links ∧ links ≤ 1000 ∧ 0 ≤ many ∧ many ≤ 1000 ∧ (combL links many.toNat [] 0).all (fun l => (spec_chPay.f k links l).isSome) = true ∧ ((combL links many.toNat [] 0).filter (payS k links)).length ≤ 1000000
  · rw [if_pos c] at h
    have e : ∀ l ∈ combL links many.toNat [] 0, spec_chPay.f (k + 1) links l = spec_chPay.f k links l := by
      intro l hl
      have := List.all_eq_true.1 c.2.2.2.2.1 l hl
      obtain ⟨r, hr⟩ := Option.isSome_iff_exists.1 this
      rw [hr, spec_chPay.mono _ _ k r hr]
    have e2 : (combL links many.toNat [] 0).filter (payS (k + 1) links) = (combL links many.toNat [] 0).filter (payS k links) := List.filter_congr (fun l hl => by unfold payS; rw [e l hl])
    rw [e2, if_pos ⟨c.1, c.2.1, c.2.2.1, c.2.2.2.1, List.all_eq_true.2 (fun l hl => by rw [e l hl]; exact List.all_eq_true.1 c.2.2.2.2.1 l hl), c.2.2.2.2.2⟩, ← h]
  · rw [if_neg c] at h; cases h
theorem spec_chAll.mono : ∀ (links : Int) k, LeO (spec_chAll.f k links) (spec_chAll.f (k + 1) links) := by
  intro links k r h
  unfold spec_chAll.f at h ⊢
  obtain ⟨m, h1, h2⟩ := Option.bind_eq_some_iff.1 h
  rw [spec_chFewest.mono links k m h1, Option.bind_some]
  exact chAllO_mono k links m r h2
set_option maxHeartbeats 4000000 in
set_option maxRecDepth 100000 in
theorem spec_chAll.calls (k : Nat) (a0 : Int) (r : List (List Int)) (w : World) (h : spec_chAll.f k a0 = some r) :
    Calls Try.prog 14 #[.int .i64 a0] w fun e w' => ∃ v0_ : Value, e = .returned (v0_) ∧ Kd.S (Kd.slice 3 (Kd.int .i64)) 22 w' w.heap.size (fun _ => True) v0_ r ∧ Below w.heap.size w w' := by
  unfold spec_chAll.f at h
  obtain ⟨many, hfew, h⟩ := Option.bind_eq_some_iff.1 h
  unfold chAllO at h
  by_cases c : 0 ≤ a0 ∧ a0 ≤ 1000 ∧ 0 ≤ many ∧ many ≤ 1000 ∧ (combL a0 many.toNat [] 0).all (fun l => (spec_chPay.f k a0 l).isSome) = true ∧ ((combL a0 many.toNat [] 0).filter (payS k a0)).length ≤ 1000000
  · rw [if_pos c] at h
    obtain rfl := Option.some.inj h
    obtain ⟨d, rfl⟩ := Int.eq_ofNat_of_zero_le c.2.2.1
    simp only [Int.toNat_natCast] at c ⊢
    have HF := Aside0.mk hfew
    have HC := Aside0.mk c
    have HLK : Aside0 (∀ W, Below w.heap.size w W → W.heap[w.heap.size]? = some (.cells #[.slice none 0 0] 32 (0, 0)) → Calls Try.prog 22 #[.int .i64 a0, .int .i64 d, .slice none 0 0, .pointer (some ⟨w.heap.size, 0, none⟩)] W fun e w' => e = .returned (.tuple #[]) ∧ ChP w.heap.size w.heap.size w W (.slice none 0 0) ([] ++ (combL a0 d [] 0).filter (payS k a0)) w') := ⟨fun W hb hO => chLook_calls k a0 ⟨c.1, c.2.1⟩ w.heap.size w (Nat.le_refl _) d none 0 [] (.slice none 0 0) [] W (by have := c.2.2.2.1; simp; omega) (fun l' hl => List.all_eq_true.1 c.2.2.2.2.1 l' hl) (by decide) (by decide) c.2.2.2.2.2 hO hb (Kd.S_nil _ _ _ _ _) (Kd.R_nil _ _ _ _ _)⟩
    clear h hfew c
    go_enter Try.func14, Try.ntmps14
    go_wp2_with (first
      | (go_at_call 23; refine (spec_chFewest.calls k a0 d _ HF.out).mono ?_; rintro e w1 ⟨rfl, hd1⟩; have HB1 : Aside0 (Below (w.alloc (.cells #[.slice none 0 0] 32)).heap.size (w.alloc (.cells #[.slice none 0 0] 32)) w1) := ⟨by first | exact hd1.below | exact hd1⟩; clear hd1; have HK1 := HLK.out w1 (below_step (below_alloc (Below.refl _ _) _) HB1.out) (blk_below (blk_new w _) HB1.out); have HK1 := Aside0.mk HK1)
      | (go_at_call 22; refine HK1.out.mono ?_; rintro e w2 ⟨rfl, v2, hO2, hS2, hK2, hT2, hB2⟩; have hcO2 : w2.cell? ⟨w.heap.size, 0, none⟩ = some v2 := (blk_cell hO2 0).trans rfl; have HS2 := Aside0.mk hS2; have HB2 := Aside0.mk hB2; clear hS2 hB2 hK2 hT2 hO2))
    go_ret
    exact ⟨_, rfl, HS2.out, HB2.out⟩
  · rw [if_neg c] at h; cases h


/-! ### spec_FirstCuts: function 5 -/
def spec_FirstCuts.f (k : Nat) (a0 : Int) : Option (List Int × Bool) := (spec_l1In.f a0 1 63).bind fun t165 => (if t165 = true then ((spec_chAll.f k a0).bind fun t166 => (if 0 < (t166.length : Int) then (some (rd_L1 t166 0, true)) else (none))) else (some (([] : List Int), false)))
theorem spec_FirstCuts.mono : ∀ a0 k, LeO (spec_FirstCuts.f k a0) (spec_FirstCuts.f (k + 1) a0) := by
  intro a0 k
  unfold spec_FirstCuts.f
  repeat' first
      | (with_reducible exact spec_chAll.mono _ _)
      | (with_reducible exact LeO.refl _)
      | (with_reducible exact LeO.none _)
      | (with_reducible refine LeO.ite ?_ ?_)
      | (with_reducible refine LeO.bind ?_ (fun _ => ?_))
      | exact spec_chAll.mono _ _
      | exact LeO.none _
      | refine LeO.ite ?_ ?_
      | refine LeO.bind ?_ (fun _ => ?_)
set_option maxHeartbeats 8000000 in
set_option maxRecDepth 100000 in
theorem spec_FirstCuts.calls (k : Nat) (a0 : Int) (r1 : List Int) (r2 : Bool) (w : World) (h : spec_FirstCuts.f k a0 = some (r1, r2)) :
    Calls Try.prog 5 #[.int .i64 a0] w fun e w' => ∃ v0_ : Value, e = .returned (.tuple #[v0_, .bool r2]) ∧ Kd.R (Kd.int .i64) 3 w' w.heap.size (fun _ => True) v0_ r1 ∧ Below w.heap.size w w' := by
  have HB := Aside0.mk (Below.refl w.heap.size w)
  have H : ((spec_l1In.f a0 1 63).bind fun t165 => (if t165 = true then ((spec_chAll.f k a0).bind fun t166 => (if 0 < (t166.length : Int) then (some (rd_L1 t166 0, true)) else (none))) else (some (([] : List Int), false)))) = some (r1, r2) := h
  clear h
  replace H := Option.bind_eq_some_iff.mp H
  obtain ⟨t165, A20, H⟩ := H
  replace H : (if t165 = true then ((spec_chAll.f k a0).bind fun t166 => (if 0 < (t166.length : Int) then (some (rd_L1 t166 0, true)) else (none))) else (some (([] : List Int), false))) = some (r1, r2) := H
  have A2 := Aside0.mk A20
  clear A20
  by_cases c3 : t165 = true
  · subst c3
    have H1 : ((spec_chAll.f k a0).bind fun t166 => (if 0 < (t166.length : Int) then (some (rd_L1 t166 0, true)) else (none))) = some (r1, r2) := by rw [if_pos rfl] at H; exact H
    clear H
    have H := H1
    clear H1
    replace H := Option.bind_eq_some_iff.mp H
    obtain ⟨t166, A40, H⟩ := H
    replace H : (if 0 < (t166.length : Int) then (some (rd_L1 t166 0, true)) else (none)) = some (r1, r2) := H
    have A4 := Aside0.mk A40
    clear A40
    by_cases c5 : 0 < (t166.length : Int)
    · rw [if_pos c5] at H
      have c5b0 : decide (0 < (t166.length : Int)) = true := decide_eq_true c5
      have c5b1 : decide (0 < t166.length) = true := decide_eq_true (by omega)
      clear c5
      simp only [Option.some.injEq, Prod.mk.injEq] at H
      obtain ⟨rfl, rfl⟩ := H
      go_enter Try.func5, Try.ntmps5
      go_wp2_with (first | ((with_reducible refine gate_callee (f := 13) rfl ?_); refine goesL_ (some 5) rfl rfl Try.func13 (by kernel_rfl) rfl #[.int .i64 a0, .int .i64 1, .int .i64 63] rfl (by (try simp only [List.map_toArray, List.map_cons, List.map_nil]); first | done | rfl | (simp only [List.length_drop, List.length_take]; rfl)) ?_; (with_reducible refine (spec_l1In.calls a0 1 63 true _ A2.out).mono ?_); rintro e w' ⟨rfl, ⟨nd, rfl⟩⟩; refine ⟨_, rfl, ?_⟩) | ((with_reducible refine gate_callee (f := 14) rfl ?_); refine goesL_ (some 8) rfl rfl Try.func14 (by kernel_rfl) rfl #[.int .i64 a0] rfl (by (try simp only [List.map_toArray, List.map_cons, List.map_nil]); first | done | rfl | (simp only [List.length_drop, List.length_take]; rfl)) ?_; (with_reducible refine (spec_chAll.calls k a0 t166 _ A4.out).mono ?_); rintro e w6 ⟨v167, rfl, ho0, hb⟩; refine ⟨_, rfl, ?_⟩; have n0_ := Aside0.mk (Kd.S_lower ho0 (below_size (by repeat (first | (with_reducible first | exact HB.out | apply below_alloc | apply pw_below_drewN | apply below_drew1) | exact HB.out)))); have n1_ := Aside0.mk (below_step (by repeat (first | (with_reducible first | exact HB.out | apply below_alloc | apply pw_below_drewN | apply below_drew1) | exact HB.out)) hb); clear HB; have HO168 := n0_; have HB := n1_; clear n0_ n1_; (try clear hb); (try clear hb2); (try clear hk); (try clear hi); (try clear ho0); obtain ⟨Ao7, co7, eo7⟩ := Kd.S_slice HO168.out; subst eo7; have p169 : 0 ≤ (0 : Int) := (by omega); have q169 : 0 < (t166.length : Int) := of_decide_eq_true (by first | (with_reducible assumption) | assumption); obtain ⟨ad169, A169_0, c169_0, e169, hx169_0, hl169_0, hi169_0⟩ := at_L1 (Kd.S_reads' HO168.out).2.2 0 p169 q169; cases e169; obtain ⟨ce169, hce169, hMe169, hcc169⟩ := Kd.S_get HO168.out [] 0 p169 (by first | exact q169 | exact of_decide_eq_true (by first | (with_reducible assumption) | assumption) | (have e_ := (Kd.S_reads' HO168.out).1; omega)); obtain ⟨ve169_0, rfl, ge169_0⟩ := hMe169; have hv169_0 := hcc169 0 _ rfl; rw [Nat.add_zero, show ((Kd.slice 3 (Kd.int .i64))).sz = 1 from rfl, Nat.mul_one] at hv169_0; replace hv169_0 := Option.some.inj (hv169_0.symm.trans hx169_0); rw [hv169_0] at ge169_0; have HL169_0 := Aside0.mk (show Kd.R (Kd.int .i64) 3 _ _ _ _ (rd_L1 t166 0) from ge169_0); clear hv169_0 ge169_0; clear hcc169 hce169; have qi169 : (0 < t166.length) = True := eq_true (by omega); (try rw [show ((0 : Int)).toNat = 0 from rfl] at hx169_0); (try rw [Addr.add_zero'] at hx169_0); have HR169_0 := Aside0.mk hi169_0; have HC169_0 := Aside0.mk hl169_0; clear hi169_0 hl169_0; replace p169 := eq_true p169; replace q169 := eq_true q169))
      go_ret2
      exact ⟨_, by first | rfl | (simp [errW_none, errW_some] <;> rfl) | (simp [*, errW_none, errW_some] <;> rfl), by (with_reducible repeat (first | apply Kd.R_alloc | apply Kd.R_drewN | apply Kd.R_drew)); exact Kd.R_mono HL169_0.out (fun _ hk => trivial), by repeat (first | (with_reducible first | exact HB.out | apply below_alloc | apply pw_below_drewN | apply below_drew1) | exact HB.out)⟩
    · rw [if_neg c5] at H
      exact absurd H (by simp)
  · replace c3 := Bool.eq_false_iff.mpr c3
    subst c3
    have H1 : (some (([] : List Int), false)) = some (r1, r2) := by rw [if_neg (show ¬ (false = true) by decide)] at H; exact H
    clear H
    have H := H1
    clear H1
    simp only [Option.some.injEq, Prod.mk.injEq] at H
    obtain ⟨rfl, rfl⟩ := H
    go_enter Try.func5, Try.ntmps5
    go_wp2_with (first | ((with_reducible refine gate_callee (f := 13) rfl ?_); refine goesL_ (some 5) rfl rfl Try.func13 (by kernel_rfl) rfl #[.int .i64 a0, .int .i64 1, .int .i64 63] rfl (by (try simp only [List.map_toArray, List.map_cons, List.map_nil]); first | done | rfl | (simp only [List.length_drop, List.length_take]; rfl)) ?_; (with_reducible refine (spec_l1In.calls a0 1 63 false _ A2.out).mono ?_); rintro e w' ⟨rfl, ⟨nd, rfl⟩⟩; refine ⟨_, rfl, ?_⟩))
    go_ret2
    exact ⟨_, by first | rfl | (simp [errW_none, errW_some] <;> rfl) | (simp [*, errW_none, errW_some] <;> rfl), by first | exact Kd.R_nil _ _ _ _ _ | exact Kd.N_nil _ _ _ _ _ | exact Kd.V_nil _ _ _ _ _ | exact Kd.Q_nil _ _ _ _ _ | exact Kd.S_nil _ _ _ _ _, by repeat (first | (with_reducible first | exact HB.out | apply below_alloc | apply pw_below_drewN | apply below_drew1) | exact HB.out)⟩

/-! ### impl_within: function 24 -/
def impl_within.f (a0 : Int) (a1 : Int) (a2 : Int) : Option (Bool) := if a1 ≤ a0 then (some (decide (a0 ≤ a2))) else (some false)
set_option maxHeartbeats 8000000 in
set_option maxRecDepth 100000 in
theorem impl_within.calls (a0 : Int) (a1 : Int) (a2 : Int) (r : Bool) (w : World) (h : impl_within.f a0 a1 a2 = some r) :
    Calls Try.prog 24 #[.int .i64 a0, .int .i64 a1, .int .i64 a2] w fun e w' => e = .returned (.bool r) ∧ Drawn0 w w' := by
  have H : (if a1 ≤ a0 then (some (decide (a0 ≤ a2))) else (some false)) = some r := h
  clear h
  by_cases c4 : a1 ≤ a0
  · rw [if_pos c4] at H
    have c4b0 : decide (a1 ≤ a0) = true := decide_eq_true c4
    clear c4
    obtain rfl := Option.some.inj H
    go_enter Try.func24, Try.ntmps24
    go_wp2
    go_ret
    exact ⟨by first | rfl | (simp; done) | (simp [*]; done), by repeat (first | exact Drawn0.refl _ | apply Drawn0.step)⟩
  · rw [if_neg c4] at H
    have c4b0 : decide (a1 ≤ a0) = false := decide_eq_false c4
    clear c4
    obtain rfl := Option.some.inj H
    go_enter Try.func24, Try.ntmps24
    go_wp2
    go_ret
    exact ⟨by first | rfl | (simp; done) | (simp [*]; done), by repeat (first | exact Drawn0.refl _ | apply Drawn0.step)⟩

/-! ### impl_mostLinks: function 38 -/
def impl_mostLinks.f (a0 : Int) : Option (Int) := if 0 ≤ (wrap64 (a0 + 1)) then (some (wrap64 ((shl .i64 (wrap64 (a0 + 1)) (wrap64 (a0 + 1))) - 1))) else (none)
set_option maxHeartbeats 8000000 in
set_option maxRecDepth 100000 in
theorem impl_mostLinks.calls (a0 : Int) (r : Int) (w : World) (h : impl_mostLinks.f a0 = some r) :
    Calls Try.prog 38 #[.int .i64 a0] w fun e w' => e = .returned (.int .i64 r) ∧ Drawn0 w w' := by
  have H : (if 0 ≤ (wrap64 (a0 + 1)) then (some (wrap64 ((shl .i64 (wrap64 (a0 + 1)) (wrap64 (a0 + 1))) - 1))) else (none)) = some r := h
  clear h
  obtain ⟨ji2, hji2⟩ : ∃ j_ : Int, (wrap64 (a0 + 1)) = j_ := ⟨_, rfl⟩
  replace H : (if 0 ≤ (ji2) then (some (wrap64 ((shl .i64 (ji2) (ji2)) - 1))) else (none)) = some r := by first | (rw [hji2] at H; exact H) | (simp only [hji2] at H ⊢; exact H)
  have hji2w : (IntKind.i64.wrap (a0 + 1)) = ji2 := (i64_w _).trans hji2
  by_cases c3 : 0 ≤ (ji2)
  · rw [if_pos c3] at H
    have c3b0 := eq_true c3
    have c3b1 : decide (0 ≤ (ji2)) = true := decide_eq_true c3
    clear c3
    obtain ⟨ji4, hji4⟩ : ∃ j_ : Int, (shl .i64 (ji2) (ji2)) = j_ := ⟨_, rfl⟩
    replace H : (some (wrap64 ((ji4) - 1))) = some r := by first | (rw [hji4] at H; exact H) | (simp only [hji4] at H ⊢; exact H)
    have hji4_ : (IntKind.i64.wrap ((ji2) * 2 ^ min (ji2).toNat 64)) = ji4 := hji4
    have hji4z : (ji2) ≤ 64 → (IntKind.i64.wrap ((ji2) * 2 ^ (ji2).toNat)) = ji4 := shl_small hji4
    have hji4y : (wrap64 ((ji2) * 2 ^ min (ji2).toNat 64)) = ji4 := (i64_w _).symm.trans hji4_
    have hji4x : (ji2) ≤ 64 → (wrap64 ((ji2) * 2 ^ (ji2).toNat)) = ji4 := fun h_ => (i64_w _).symm.trans (hji4z h_)
    obtain rfl := Option.some.inj H
    go_enter Try.func38, Try.ntmps38
    go_wp2
    go_ret
    exact ⟨by first | rfl | (simp; done) | (simp only [← hji2, ← hji4] <;> (first | rfl | simp)) | (simp [*]; done), by repeat (first | exact Drawn0.refl _ | apply Drawn0.step)⟩
  · rw [if_neg c3] at H
    exact absurd H (by simp)

/-! ### impl_fewest: function 37 -/
-- GIVEN loop.example/g01305/impl.fewest raw=1
-- NEEDS loop.example/g01305/impl.within ; loop.example/g01305/impl.mostLinks
/-- The least number from c on that reaches so many links. -/
def fewO (links : Int) : Nat → Int → Option Int
  | 0, _ => none
  | k + 1, c => (impl_mostLinks.f c).bind fun m => if m < links then fewO links k (wrap64 (c + 1)) else some c
theorem fewO_mono (links : Int) : ∀ (k : Nat) (c : Int), LeO (fewO links k c) (fewO links (k + 1) c)
  | 0, _, r, h => by simp [fewO] at h
  | k + 1, c, r, h => by
    rw [fewO] at h ⊢
    obtain ⟨m, h1, h2⟩ := Option.bind_eq_some_iff.1 h
    rw [h1, Option.bind_some]
    by_cases c1 : m < links
    · rw [if_pos c1] at h2 ⊢; exact fewO_mono links k _ r h2
    · rw [if_neg c1] at h2 ⊢; exact h2
set_option maxHeartbeats 2000000 in
theorem fewest_calls (links r : Int) (h1 : 1 ≤ links) (h2 : links ≤ 100000) (k0 : Nat) (hf : fewO links k0 0 = some r) (w : World) :
    Calls Try.prog 37 #[.int .i64 0, .int .i64 links, .func (.func 38) #[] #[]] w fun e w' => e = .returned (.tuple #[.int .i64 r, .bool true]) ∧ Below w.heap.size w w' := by
  have HIN := Aside0.mk (show impl_within.f links 1 100000 = some true by unfold impl_within.f; rw [if_pos (by omega), decide_eq_true (by omega)])
  have HF := Aside0.mk hf
  clear hf h1 h2
  go_enter Try.func37, Try.ntmps37
  go_wp2_with (go_at_call 24; refine (impl_within.calls links 1 100000 true _ HIN.out).mono ?_; rintro e w1 ⟨rfl, hd1⟩; have HB1 := Aside0.mk hd1.below; clear hd1)
  go_loopg [0] k0 (fun gg v0 wr => ∃ (c : Int) (kk : Nat), v0 = .int .i64 c ∧ Aside0 (fewO links kk c = some r ∧ kk ≤ gg) ∧ Aside0 (Below w.heap.size w wr))
  case atStart => exact ⟨0, k0, rfl, ⟨HF.out, Nat.le_refl _⟩, HB1⟩
  case round =>
    obtain ⟨c, kk, rfl, HK, HB⟩ := hrel
    cases kk with
    | zero => exact absurd HK.out.1 (by simp [fewO])
    | succ kk =>
      have hk := HK.out.1
      have hkg := HK.out.2
      rw [fewO] at hk
      obtain ⟨m, hm, hk⟩ := Option.bind_eq_some_iff.1 hk
      have HM := Aside0.mk hm
      clear hm
      by_cases hlt : m < links
      · have hlt0 := decide_eq_true hlt
        rw [if_pos hlt] at hk
        have HK2 := Aside0.mk (And.intro hk hkg)
        clear hk hkg HK
        go_wp2_with (go_at_call 38; refine (impl_mostLinks.calls c m _ HM.out).mono ?_; rintro e w2 ⟨rfl, hd2⟩; have HB2 := Aside0.mk (below_step HB.out hd2.below); clear hd2)
        go_roundg (gk - 1)
        case measure => have := HK2.out.2; omega
        case rel => exact ⟨_, kk, rfl, ⟨HK2.out.1, by have := HK2.out.2; omega⟩, HB2⟩
      · have hlt0 := decide_eq_false hlt
        rw [if_neg hlt] at hk
        obtain rfl := Option.some.inj hk
        clear hk hkg HK
        go_wp2_with (go_at_call 38; refine (impl_mostLinks.calls c m _ HM.out).mono ?_; rintro e w2 ⟨rfl, hd2⟩; have HB2 := Aside0.mk (below_step HB.out hd2.below); clear hd2)
        go_ret2
        exact ⟨rfl, HB2.out⟩


/-! ### impl_FewestCuts: function 25 -/
-- GIVEN loop.example/g01305/impl.FewestCuts rounds=1 raw=1
-- NEEDS loop.example/g01305/impl.fewest
theorem FewestCuts_calls (links r : Int) (h1 : 1 ≤ links) (h2 : links ≤ 100000) (k0 : Nat) (hf : fewO links k0 0 = some r) (w : World) :
    Calls Try.prog 25 #[.int .i64 links] w fun e w' => e = .returned (.tuple #[.int .i64 r, .bool true]) ∧ Below w.heap.size w w' := by
  have HC := Aside0.mk (fun W => fewest_calls links r h1 h2 k0 hf W)
  clear hf h1 h2
  go_enter Try.func25, Try.ntmps25
  go_wp2_with (go_at_call 37; refine (HC.out _).mono ?_; rintro e w1 ⟨rfl, hb1⟩; have HB1 := Aside0.mk hb1; clear hb1)
  go_ret2
  exact ⟨rfl, HB1.out⟩


/-! ### impl_run: function 33 -/
def impl_run.l0 : Nat → Int → List Int → Int → Int → Option (Int)
  | 0, _, _, _, _ => none
  | k + 1, x3, x6, x7, x8 => if x8 < x7 then (if 0 ≤ x8 then (if x8 < (x6.length : Int) then (if (rd x6 x8) > (wrap64 (x3 + 1)) then (some x3) else (impl_run.l0 k (wrap64 (x3 + (rd x6 x8))) x6 x7 (wrap64 (x8 + 1)))) else (none)) else (none)) else (some x3)
def impl_run.f (k : Nat) (l0 : List Int) : Option (Int) := impl_run.l0 k 0 l0 (l0.length : Int) 0
theorem impl_run.mono_l : ∀ k, (∀ y0 y1 y2 y3, LeO (impl_run.l0 k y0 y1 y2 y3) (impl_run.l0 (k + 1) y0 y1 y2 y3))
  | 0 => fun _ _ _ _ r h => by simp [impl_run.l0] at h
  | k + 1 => by
    have ih0 := impl_run.mono_l k
    · intro y0 y1 y2 y3
      unfold impl_run.l0
      repeat' first
      | (with_reducible exact ih0 _ _ _ _)
      | (with_reducible exact LeO.refl _)
      | (with_reducible exact LeO.none _)
      | (with_reducible refine LeO.ite ?_ ?_)
      | (with_reducible refine LeO.bind ?_ (fun _ => ?_))
      | exact ih0 _ _ _ _
      | exact LeO.none _
      | refine LeO.ite ?_ ?_
      | refine LeO.bind ?_ (fun _ => ?_)
theorem impl_run.mono : ∀ a0 k, LeO (impl_run.f k a0) (impl_run.f (k + 1) a0) := by
  intro a0 k
  have ih0 := impl_run.mono_l k
  unfold impl_run.f
  repeat' first
      | (with_reducible exact ih0 _ _ _ _)
      | (with_reducible exact LeO.refl _)
      | (with_reducible exact LeO.none _)
      | (with_reducible refine LeO.ite ?_ ?_)
      | (with_reducible refine LeO.bind ?_ (fun _ => ?_))
      | exact ih0 _ _ _ _
      | exact LeO.none _
      | refine LeO.ite ?_ ?_
      | refine LeO.bind ?_ (fun _ => ?_)
set_option maxHeartbeats 8000000 in
set_option maxRecDepth 100000 in
theorem impl_run.calls (k : Nat) (A0 : Option Addr) (c0 : Nat) (l0 : List Int) (r : Int) (w : World) (hr0 : Kd.C (Kd.int .i64) w A0 l0.length l0) (hc0 : l0.length ≤ c0) (h : impl_run.f k l0 = some r) :
    Calls Try.prog 33 #[.slice A0 l0.length c0] w fun e w' => e = .returned (.int .i64 r) ∧ Drawn0 w w' := by
  have HR0 := Aside0.mk hr0
  have HC0 := Aside0.mk hc0
  clear hr0 hc0
  have H : (impl_run.l0 k 0 l0 (l0.length : Int) 0) = some r := h
  clear h
  have H' := Aside0.mk H
  clear H
  go_enter Try.func33, Try.ntmps33
  go_wp2
  go_loopg [3, 8] k (fun kq v3 v8 w' => ∃ (x3_1 : Int) (x8_1 : Int), v3 = .int .i64 x3_1 ∧ v8 = .int .i64 x8_1 ∧ Aside0 (impl_run.l0 kq x3_1 l0 (l0.length : Int) x8_1 = some r) ∧ Aside0 (kq ≤ k) ∧ Drawn0 w w')
  case atStart => exact ⟨(0), (0), (by first | rfl | (simp; done) | (simp [*]; done)), (by first | rfl | (simp; done) | (simp [*]; done)), H', ⟨Nat.le_refl _⟩, by repeat (first | exact Drawn0.refl _ | apply Drawn0.step)⟩
  case round =>
    clear H'
    obtain ⟨x3_1, x8_1, rfl, rfl, HA, HK1, ⟨m1, rfl⟩⟩ := hrel
    cases gk with
    | zero => exact absurd HA.out (by simp [impl_run.l0])
    | succ k1 =>
      have H := HA.out
      clear HA
      simp only [impl_run.l0] at H
      by_cases c2 : x8_1 < (l0.length : Int)
      · rw [if_pos c2] at H
        have c2b0 : decide (x8_1 < (l0.length : Int)) = true := decide_eq_true c2
        clear c2
        by_cases c3 : 0 ≤ x8_1
        · rw [if_pos c3] at H
          have c3b0 : decide (0 ≤ x8_1) = true := decide_eq_true c3
          clear c3
          by_cases c4 : x8_1 < (l0.length : Int)
          · rw [if_pos c4] at H
            have c4b0 : decide (x8_1 < (l0.length : Int)) = true := decide_eq_true c4
            clear c4
            by_cases c5 : (rd l0 x8_1) > (wrap64 (x3_1 + 1))
            · rw [if_pos c5] at H
              have c5b0 : decide ((wrap64 (x3_1 + 1)) < (rd l0 x8_1)) = true := decide_eq_true c5
              clear c5
              obtain rfl := Option.some.inj H
              have p170 : 0 ≤ (x8_1 : Int) := of_decide_eq_true (by first | (with_reducible assumption) | assumption)
              have q170 : x8_1 < (l0.length : Int) := of_decide_eq_true (by first | (with_reducible assumption) | assumption)
              obtain ⟨ad170, e170, hx170_0⟩ := Kd.at_int HR0.out x8_1 p170 q170
              cases e170
              replace p170 := eq_true p170
              replace q170 := eq_true q170
              go_wp2
              go_ret
              exact ⟨by first | rfl | (simp; done) | (simp [*]; done), by repeat (first | exact Drawn0.refl _ | apply Drawn0.step)⟩
            · rw [if_neg c5] at H
              have c5b0 : decide ((wrap64 (x3_1 + 1)) < (rd l0 x8_1)) = false := decide_eq_false c5
              clear c5
              have H' := Aside0.mk H
              clear H
              have p170 : 0 ≤ (x8_1 : Int) := of_decide_eq_true (by first | (with_reducible assumption) | assumption)
              have q170 : x8_1 < (l0.length : Int) := of_decide_eq_true (by first | (with_reducible assumption) | assumption)
              obtain ⟨ad170, e170, hx170_0⟩ := Kd.at_int HR0.out x8_1 p170 q170
              cases e170
              replace p170 := eq_true p170
              replace q170 := eq_true q170
              go_wp2
              go_roundg k1
              case measure => have := HK1.out; omega
              case rel => exact ⟨(wrap64 (x3_1 + (rd l0 x8_1))), (wrap64 (x8_1 + 1)), (by first | rfl | (simp; done) | (simp [*]; done)), (by first | rfl | (simp; done) | (simp [*]; done)), H', ⟨by have := HK1.out; omega⟩, by repeat (first | exact Drawn0.refl _ | apply Drawn0.step)⟩
          · rw [if_neg c4] at H
            exact absurd H (by simp)
        · rw [if_neg c3] at H
          exact absurd H (by simp)
      · rw [if_neg c2] at H
        have c2b0 : decide (x8_1 < (l0.length : Int)) = false := decide_eq_false c2
        clear c2
        obtain rfl := Option.some.inj H
        go_wp2
        go_ret
        exact ⟨by first | rfl | (simp; done) | (simp [*]; done), by repeat (first | exact Drawn0.refl _ | apply Drawn0.step)⟩

/-! ### impl_parts: function 44 -/
def impl_parts.l0 : Nat → Int → List Int → Int → List Int → Int → Int → Option (List Int)
  | 0, _, _, _, _, _, _ => none
  | k + 1, x0, x5, x6, x10, x11, x12 => if x12 < x11 then (if 0 ≤ x12 then (if x12 < (x10.length : Int) then (if (rd x10 x12) > x6 then (if x5.length < 17592186044416 then ((some (x5 ++ [wrap64 ((rd x10 x12) - x6)] : List Int)).bind fun y175 => (if y175.length < 17592186044416 then (impl_parts.l0 k x0 (y175 ++ [1]) (wrap64 ((rd x10 x12) + 1)) x10 x11 (wrap64 (x12 + 1))) else (none))) else (none)) else (if x5.length < 17592186044416 then (impl_parts.l0 k x0 (x5 ++ [1]) (wrap64 ((rd x10 x12) + 1)) x10 x11 (wrap64 (x12 + 1))) else (none))) else (none)) else (none)) else (if x0 > x6 then (if x5.length < 17592186044416 then (some (x5 ++ [wrap64 (x0 - x6)])) else (none)) else (some x5))
def impl_parts.f (k : Nat) (a0 : Int) (l1 : List Int) : Option (List Int) := impl_parts.l0 k a0 (([] : List Int)) 0 l1 (l1.length : Int) 0
theorem impl_parts.mono_l : ∀ k, (∀ y0 y1 y2 y3 y4 y5, LeO (impl_parts.l0 k y0 y1 y2 y3 y4 y5) (impl_parts.l0 (k + 1) y0 y1 y2 y3 y4 y5))
  | 0 => fun _ _ _ _ _ _ r h => by simp [impl_parts.l0] at h
  | k + 1 => by
    have ih0 := impl_parts.mono_l k
    · intro y0 y1 y2 y3 y4 y5
      unfold impl_parts.l0
      repeat' first
      | (with_reducible exact ih0 _ _ _ _ _ _)
      | (with_reducible exact LeO.refl _)
      | (with_reducible exact LeO.none _)
      | (with_reducible refine LeO.ite ?_ ?_)
      | (with_reducible refine LeO.bind ?_ (fun _ => ?_))
      | exact ih0 _ _ _ _ _ _
      | exact LeO.none _
      | refine LeO.ite ?_ ?_
      | refine LeO.bind ?_ (fun _ => ?_)
theorem impl_parts.mono : ∀ a0 a1 k, LeO (impl_parts.f k a0 a1) (impl_parts.f (k + 1) a0 a1) := by
  intro a0 a1 k
  have ih0 := impl_parts.mono_l k
  unfold impl_parts.f
  repeat' first
      | (with_reducible exact ih0 _ _ _ _ _ _)
      | (with_reducible exact LeO.refl _)
      | (with_reducible exact LeO.none _)
      | (with_reducible refine LeO.ite ?_ ?_)
      | (with_reducible refine LeO.bind ?_ (fun _ => ?_))
      | exact ih0 _ _ _ _ _ _
      | exact LeO.none _
      | refine LeO.ite ?_ ?_
      | refine LeO.bind ?_ (fun _ => ?_)
set_option maxHeartbeats 8000000 in
set_option maxRecDepth 100000 in
theorem impl_parts.calls (k : Nat) (a0 : Int) (A1 : Option Addr) (c1 : Nat) (l1 : List Int) (r : List Int) (w : World) (hr1 : Kd.C (Kd.int .i64) w A1 l1.length l1) (hc1 : l1.length ≤ c1) (h : impl_parts.f k a0 l1 = some r) :
    Calls Try.prog 44 #[.int .i64 a0, .slice A1 l1.length c1] w fun e w' => ∃ v0_ : Value, e = .returned (v0_) ∧ Kd.R (Kd.int .i64) 3 w' w.heap.size (fun _ => True) v0_ r ∧ Below w.heap.size w w' := by
  have HR1 := Aside0.mk hr1
  have HC1 := Aside0.mk hc1
  clear hr1 hc1
  have HB := Aside0.mk (Below.refl w.heap.size w)
  have H : (impl_parts.l0 k a0 (([] : List Int)) 0 l1 (l1.length : Int) 0) = some r := h
  clear h
  obtain ⟨y171, hy171⟩ : ∃ y_ : List Int, y_ = (([] : List Int)) := ⟨_, rfl⟩
  replace H : (impl_parts.l0 k a0 y171 0 l1 (l1.length : Int) 0) = some r := by first | (rw [hy171]; with_reducible exact H) | (have H2_ := (Option.bind_some _ _).symm.trans H; rw [hy171]; with_reducible exact H2_) | (have H2_ := (Option.bind_some _ _).symm.trans H; with_reducible exact H2_) | with_reducible exact H | (rw [hy171]; exact H) | exact H
  have Ny171 := Aside0.mk hy171
  clear hy171
  have H' := Aside0.mk H
  clear H
  go_enter Try.func44, Try.ntmps44
  go_wp2_with (first | ((with_reducible refine gate_dst (N := 9) rfl ?_); refine Kd.R_lit (Kd.int .i64) _ 3 ?hg (N := 9) ?hd (xs := ([] : List Int)) (inner := []) (ok := fun _ => True) (okp := fun _ => True) ?hr ?hp (fun _ hk => hk) trivial (Below.refl _ _) (Nat.le_refl _) (by simp) ?_; (case hd => rfl); (case hg => rfl); (case hr => first | (go_simp; done) | (go_simp; rfl)); (case hp => exact (Reps.none _ _)); intro v172 w3 ho4 hb hg_ hnew_; clear hg_ hnew_; (first | rw [← Ny171.out] at ho4 | (simp only [Int.reduceToNat] at ho4; rw [← Ny171.out] at ho4)); have n0_ := Aside0.mk (Kd.R_lower ho4 (below_size (by repeat (first | (with_reducible first | exact HB.out | apply below_alloc | apply pw_below_drewN | apply below_drew1) | exact HB.out)))); have n1_ := Aside0.mk (below_step (by repeat (first | (with_reducible first | exact HB.out | apply below_alloc | apply pw_below_drewN | apply below_drew1) | exact HB.out)) hb); clear HB; have HO173 := n0_; have HB := n1_; clear n0_ n1_; clear hb ho4))
  go_loopg [5, 6, 12] k (fun kq v5 v6 v12 w' => ∃ (x5_1 : List Int) (x6_1 : Int) (x12_1 : Int), v6 = .int .i64 x6_1 ∧ v12 = .int .i64 x12_1 ∧ Aside0 (impl_parts.l0 kq a0 x5_1 x6_1 l1 (l1.length : Int) x12_1 = some r) ∧ Aside0 (kq ≤ k) ∧ Aside0 (Kd.R (Kd.int .i64) 3 w' w.heap.size (fun _ => True) v5 x5_1) ∧ Aside0 (Below w.heap.size w w'))
  case atStart => exact ⟨(y171), (0), (0), (by first | rfl | (simp; done) | (simp [*]; done)), (by first | rfl | (simp; done) | (simp [*]; done)), H', ⟨Nat.le_refl _⟩, ⟨by (with_reducible repeat (first | apply Kd.R_alloc | apply Kd.R_drewN | apply Kd.R_drew)); exact HO173.out⟩, ⟨by repeat (first | (with_reducible first | exact HB.out | apply below_alloc | apply pw_below_drewN | apply below_drew1) | exact HB.out)⟩⟩
  case round =>
    clear H'
    try clear c1
    try clear p2
    try clear c4
    obtain ⟨x5_1, x6_1, x12_1, rfl, rfl, HA, HK1, HO_5, HB⟩ := hrel
    cases gk with
    | zero => exact absurd HA.out (by simp [impl_parts.l0])
    | succ k1 =>
      have H := HA.out
      clear HA
      simp only [impl_parts.l0] at H
      by_cases c5 : x12_1 < (l1.length : Int)
      · rw [if_pos c5] at H
        have c5b0 : decide (x12_1 < (l1.length : Int)) = true := decide_eq_true c5
        clear c5
        by_cases c6 : 0 ≤ x12_1
        · rw [if_pos c6] at H
          have c6b0 : decide (0 ≤ x12_1) = true := decide_eq_true c6
          clear c6
          by_cases c7 : x12_1 < (l1.length : Int)
          · rw [if_pos c7] at H
            have c7b0 : decide (x12_1 < (l1.length : Int)) = true := decide_eq_true c7
            clear c7
            by_cases c8 : (rd l1 x12_1) > x6_1
            · rw [if_pos c8] at H
              have c8b0 : decide (x6_1 < (rd l1 x12_1)) = true := decide_eq_true c8
              clear c8
              by_cases c9 : x5_1.length < 17592186044416
              · rw [if_pos c9] at H
                have LMc9 := Aside0.mk c9
                clear c9
                obtain ⟨y175, hy175⟩ : ∃ y_ : List Int, y_ = (x5_1 ++ [wrap64 ((rd l1 x12_1) - x6_1)]) := ⟨_, rfl⟩
                replace H : (if y175.length < 17592186044416 then (impl_parts.l0 k1 a0 (y175 ++ [1]) (wrap64 ((rd l1 x12_1) + 1)) l1 (l1.length : Int) (wrap64 (x12_1 + 1))) else (none)) = some r := by first | (rw [hy175]; with_reducible exact H) | (have H2_ := (Option.bind_some _ _).symm.trans H; rw [hy175]; with_reducible exact H2_) | (have H2_ := (Option.bind_some _ _).symm.trans H; with_reducible exact H2_) | with_reducible exact H | (rw [hy175]; exact H) | exact H
                have Ny175 := Aside0.mk hy175
                clear hy175
                by_cases c10 : y175.length < 17592186044416
                · rw [if_pos c10] at H
                  have LMc10 := Aside0.mk c10
                  clear c10
                  obtain ⟨y178, hy178⟩ : ∃ y_ : List Int, y_ = (y175 ++ [1]) := ⟨_, rfl⟩
                  replace H : (impl_parts.l0 k1 a0 y178 (wrap64 ((rd l1 x12_1) + 1)) l1 (l1.length : Int) (wrap64 (x12_1 + 1))) = some r := by first | (rw [hy178]; with_reducible exact H) | (have H2_ := (Option.bind_some _ _).symm.trans H; rw [hy178]; with_reducible exact H2_) | (have H2_ := (Option.bind_some _ _).symm.trans H; with_reducible exact H2_) | with_reducible exact H | (rw [hy178]; exact H) | exact H
                  have Ny178 := Aside0.mk hy178
                  clear hy178
                  have H' := Aside0.mk H
                  clear H
                  have p174 : 0 ≤ (x12_1 : Int) := of_decide_eq_true (by first | (with_reducible assumption) | assumption)
                  have q174 : x12_1 < (l1.length : Int) := of_decide_eq_true (by first | (with_reducible assumption) | assumption)
                  obtain ⟨ad174, e174, hx174_0⟩ := Kd.at_int HR1.out x12_1 p174 q174
                  cases e174
                  replace hx174_0 := (HB.out.cell (World.block_lt_of_cell? w _ hx174_0)).trans hx174_0
                  replace p174 := eq_true p174
                  replace q174 := eq_true q174
                  go_wp2_with (first | ((with_reducible refine gate_builtin (b := .append) (xs := #[.tmp 19, .tmp 23]) rfl ?_); at_builtin; refine Kd.R_append (Kd.int .i64) (w0 := w) w.heap.size rfl (.tmp 19) (.tmp 23) 22 3 (.int .i64 0) 8 rfl Try.underlying22 info3 rfl (by decide) (by omega) u5 x5_1 (wrap64 ((rd l1 x12_1) - x6_1)) [.int .i64 (wrap64 ((rd l1 x12_1) - x6_1))] (fun _ => True) (fun _ => False) rfl rfl ?aP (fun _ hk => hk.elim) ?aF ?aO ?aB ?aS ?aL ?_; (case aP => exact rfl); (case aB => exact (by repeat (first | (with_reducible first | exact HB.out | apply below_alloc | apply pw_below_drewN | apply below_drew1) | exact HB.out))); (case aF => exact (fun _ _ => trivial)); (case aO => exact (by (with_reducible repeat (first | apply Kd.R_alloc | apply Kd.R_drewN | apply Kd.R_drew)); exact HO_5.out)); (case aS => exact (below_size (by repeat (first | (with_reducible first | exact HB.out | apply below_alloc | apply pw_below_drewN | apply below_drew1) | exact HB.out)))); (case aL => have := LMc9.out; omega); intro v176 w11 ho hb hg hat; rw [← Ny175.out] at ho; have n0_ := Aside0.mk (hb); have n1_ := Aside0.mk (ho); clear HB; clear HO_5; have HB := n0_; have HO177 := n1_; clear n0_ n1_; clear ho hb hg hat) | ((with_reducible refine gate_builtin (b := .append) (xs := #[.tmp 25, .tmp 26]) rfl ?_); at_builtin; refine Kd.R_append (Kd.int .i64) (w0 := w) w.heap.size rfl (.tmp 25) (.tmp 26) 22 3 (.int .i64 0) 8 rfl Try.underlying22 info3 rfl (by decide) (by omega) v176 y175 1 [.int .i64 1] (fun _ => True) (fun _ => False) rfl rfl ?aP (fun _ hk => hk.elim) ?aF ?aO ?aB ?aS ?aL ?_; (case aP => exact rfl); (case aB => exact (by repeat (first | (with_reducible first | exact HB.out | apply below_alloc | apply pw_below_drewN | apply below_drew1) | exact HB.out))); (case aF => exact (fun _ _ => trivial)); (case aO => exact (by (with_reducible repeat (first | apply Kd.R_alloc | apply Kd.R_drewN | apply Kd.R_drew)); exact HO177.out)); (case aS => exact (below_size (by repeat (first | (with_reducible first | exact HB.out | apply below_alloc | apply pw_below_drewN | apply below_drew1) | exact HB.out)))); (case aL => have := LMc10.out; omega); intro v179 w12 ho hb hg hat; rw [← Ny178.out] at ho; have n0_ := Aside0.mk (hb); have n1_ := Aside0.mk (ho); clear HB; clear HO177; have HB := n0_; have HO180 := n1_; clear n0_ n1_; clear ho hb hg hat))
                  go_roundg k1
                  case measure => have := HK1.out; omega
                  case rel => exact ⟨(y178), (wrap64 ((rd l1 x12_1) + 1)), (wrap64 (x12_1 + 1)), (by first | rfl | (simp; done) | (simp [*]; done)), (by first | rfl | (simp; done) | (simp [*]; done)), H', ⟨by have := HK1.out; omega⟩, ⟨by (with_reducible repeat (first | apply Kd.R_alloc | apply Kd.R_drewN | apply Kd.R_drew)); exact HO180.out⟩, ⟨by repeat (first | (with_reducible first | exact HB.out | apply below_alloc | apply pw_below_drewN | apply below_drew1) | exact HB.out)⟩⟩
                · rw [if_neg c10] at H
                  exact absurd H (by simp)
              · rw [if_neg c9] at H
                exact absurd H (by simp)
            · rw [if_neg c8] at H
              have c8b0 : decide (x6_1 < (rd l1 x12_1)) = false := decide_eq_false c8
              clear c8
              by_cases c13 : x5_1.length < 17592186044416
              · rw [if_pos c13] at H
                have LMc13 := Aside0.mk c13
                clear c13
                obtain ⟨y181, hy181⟩ : ∃ y_ : List Int, y_ = (x5_1 ++ [1]) := ⟨_, rfl⟩
                replace H : (impl_parts.l0 k1 a0 y181 (wrap64 ((rd l1 x12_1) + 1)) l1 (l1.length : Int) (wrap64 (x12_1 + 1))) = some r := by first | (rw [hy181]; with_reducible exact H) | (have H2_ := (Option.bind_some _ _).symm.trans H; rw [hy181]; with_reducible exact H2_) | (have H2_ := (Option.bind_some _ _).symm.trans H; with_reducible exact H2_) | with_reducible exact H | (rw [hy181]; exact H) | exact H
                have Ny181 := Aside0.mk hy181
                clear hy181
                have H' := Aside0.mk H
                clear H
                have p174 : 0 ≤ (x12_1 : Int) := of_decide_eq_true (by first | (with_reducible assumption) | assumption)
                have q174 : x12_1 < (l1.length : Int) := of_decide_eq_true (by first | (with_reducible assumption) | assumption)
                obtain ⟨ad174, e174, hx174_0⟩ := Kd.at_int HR1.out x12_1 p174 q174
                cases e174
                replace hx174_0 := (HB.out.cell (World.block_lt_of_cell? w _ hx174_0)).trans hx174_0
                replace p174 := eq_true p174
                replace q174 := eq_true q174
                go_wp2_with (first | ((with_reducible refine gate_builtin (b := .append) (xs := #[.tmp 25, .tmp 26]) rfl ?_); at_builtin; refine Kd.R_append (Kd.int .i64) (w0 := w) w.heap.size rfl (.tmp 25) (.tmp 26) 22 3 (.int .i64 0) 8 rfl Try.underlying22 info3 rfl (by decide) (by omega) u5 x5_1 1 [.int .i64 1] (fun _ => True) (fun _ => False) rfl rfl ?aP (fun _ hk => hk.elim) ?aF ?aO ?aB ?aS ?aL ?_; (case aP => exact rfl); (case aB => exact (by repeat (first | (with_reducible first | exact HB.out | apply below_alloc | apply pw_below_drewN | apply below_drew1) | exact HB.out))); (case aF => exact (fun _ _ => trivial)); (case aO => exact (by (with_reducible repeat (first | apply Kd.R_alloc | apply Kd.R_drewN | apply Kd.R_drew)); exact HO_5.out)); (case aS => exact (below_size (by repeat (first | (with_reducible first | exact HB.out | apply below_alloc | apply pw_below_drewN | apply below_drew1) | exact HB.out)))); (case aL => have := LMc13.out; omega); intro v182 w14 ho hb hg hat; rw [← Ny181.out] at ho; have n0_ := Aside0.mk (hb); have n1_ := Aside0.mk (ho); clear HB; clear HO_5; have HB := n0_; have HO183 := n1_; clear n0_ n1_; clear ho hb hg hat))
                go_roundg k1
                case measure => have := HK1.out; omega
                case rel => exact ⟨(y181), (wrap64 ((rd l1 x12_1) + 1)), (wrap64 (x12_1 + 1)), (by first | rfl | (simp; done) | (simp [*]; done)), (by first | rfl | (simp; done) | (simp [*]; done)), H', ⟨by have := HK1.out; omega⟩, ⟨by (with_reducible repeat (first | apply Kd.R_alloc | apply Kd.R_drewN | apply Kd.R_drew)); exact HO183.out⟩, ⟨by repeat (first | (with_reducible first | exact HB.out | apply below_alloc | apply pw_below_drewN | apply below_drew1) | exact HB.out)⟩⟩
              · rw [if_neg c13] at H
                exact absurd H (by simp)
          · rw [if_neg c7] at H
            exact absurd H (by simp)
        · rw [if_neg c6] at H
          exact absurd H (by simp)
      · rw [if_neg c5] at H
        have c5b0 : decide (x12_1 < (l1.length : Int)) = false := decide_eq_false c5
        clear c5
        by_cases c15 : a0 > x6_1
        · rw [if_pos c15] at H
          have c15b0 : decide (x6_1 < a0) = true := decide_eq_true c15
          clear c15
          by_cases c16 : x5_1.length < 17592186044416
          · rw [if_pos c16] at H
            have LMc16 := Aside0.mk c16
            clear c16
            obtain ⟨y184, hy184⟩ : ∃ y_ : List Int, y_ = (x5_1 ++ [wrap64 (a0 - x6_1)]) := ⟨_, rfl⟩
            replace H : (some y184) = some r := by first | (rw [hy184]; with_reducible exact H) | (have H2_ := (Option.bind_some _ _).symm.trans H; rw [hy184]; with_reducible exact H2_) | (have H2_ := (Option.bind_some _ _).symm.trans H; with_reducible exact H2_) | with_reducible exact H | (rw [hy184]; exact H) | exact H
            have Ny184 := Aside0.mk hy184
            clear hy184
            obtain rfl := Option.some.inj H
            go_wp2_with (first | ((with_reducible refine gate_builtin (b := .append) (xs := #[.tmp 34, .tmp 38]) rfl ?_); at_builtin; refine Kd.R_append (Kd.int .i64) (w0 := w) w.heap.size rfl (.tmp 34) (.tmp 38) 22 3 (.int .i64 0) 8 rfl Try.underlying22 info3 rfl (by decide) (by omega) u5 x5_1 (wrap64 (a0 - x6_1)) [.int .i64 (wrap64 (a0 - x6_1))] (fun _ => True) (fun _ => False) rfl rfl ?aP (fun _ hk => hk.elim) ?aF ?aO ?aB ?aS ?aL ?_; (case aP => exact rfl); (case aB => exact (by repeat (first | (with_reducible first | exact HB.out | apply below_alloc | apply pw_below_drewN | apply below_drew1) | exact HB.out))); (case aF => exact (fun _ _ => trivial)); (case aO => exact (by (with_reducible repeat (first | apply Kd.R_alloc | apply Kd.R_drewN | apply Kd.R_drew)); exact HO_5.out)); (case aS => exact (below_size (by repeat (first | (with_reducible first | exact HB.out | apply below_alloc | apply pw_below_drewN | apply below_drew1) | exact HB.out)))); (case aL => have := LMc16.out; omega); intro v185 w17 ho hb hg hat; rw [← Ny184.out] at ho; have n0_ := Aside0.mk (hb); have n1_ := Aside0.mk (ho); clear HB; clear HO_5; have HB := n0_; have HO186 := n1_; clear n0_ n1_; clear ho hb hg hat))
            go_ret
            exact ⟨_, by first | rfl | (simp [errW_none, errW_some] <;> rfl) | (simp [*, errW_none, errW_some] <;> rfl), by (with_reducible repeat (first | apply Kd.R_alloc | apply Kd.R_drewN | apply Kd.R_drew)); exact HO186.out, by repeat (first | (with_reducible first | exact HB.out | apply below_alloc | apply pw_below_drewN | apply below_drew1) | exact HB.out)⟩
          · rw [if_neg c16] at H
            exact absurd H (by simp)
        · rw [if_neg c15] at H
          have c15b0 : decide (x6_1 < a0) = false := decide_eq_false c15
          clear c15
          obtain rfl := Option.some.inj H
          go_wp2
          go_ret
          exact ⟨_, by first | rfl | (simp [errW_none, errW_some] <;> rfl) | (simp [*, errW_none, errW_some] <;> rfl), by (with_reducible repeat (first | apply Kd.R_alloc | apply Kd.R_drewN | apply Kd.R_drew)); exact HO_5.out, by repeat (first | (with_reducible first | exact HB.out | apply below_alloc | apply pw_below_drewN | apply below_drew1) | exact HB.out)⟩

/-! ### word sort -/
/-- A row of integers of the call's own, sorted by the library. -/
theorem sortR {e base : Nat} {ok : Nat → Prop} {v : Value} {l : List Int} {w : World} (HO : Kd.R (Kd.int .i64) e w base ok v l) (hl : 0 < l.length) (h2 : l.length < 4611686018427387904) :
    Calls Try.prog 45 #[v] w fun E w' => E = .returned (.tuple #[]) ∧ Kd.R (Kd.int .i64) e w' base ok v (l.mergeSort fun x y => decide (x ≤ y)) ∧ w.grownBy w' v.ownBlock := by
  have ho := Kd.own_of_R HO
  rcases ho.2 with ⟨hnil, h0⟩ | ⟨g, cap, cur, rfl, hbase, hb, h1, h2', h3, h4⟩
  · omega
  · refine (Go.Proofs.YtbpmakcgiepkhaaW.Shelf.slices_Sort_int g 0 cap l w (holds_of_blockI hb (by simpa [encs] using h4)) (Array.getElem?_eq_some_iff.1 hb).1 h2).mono ?_
    rintro E w' ⟨rfl, n, os, rfl⟩
    refine ⟨rfl, Kd.R_of_own ?_ HO.1, grownBy_sortedI _⟩
    rw [List.length_mergeSort]
    exact ownsRow_sortedI (by rw [List.length_mergeSort]) hbase hb h1 h2' h3


/-! ### impl_pieces: function 34 -/
-- GIVEN loop.example/g01305/impl.pieces only=1 rounds=1
-- USES sort
-- NEEDS loop.example/g01305/impl.parts
def impl_pieces.f (k : Nat) (a0 : Int) (l1 : List Int) : Option (List Int) := (impl_parts.f k a0 l1).bind fun r => if 0 < r.length then (if r.length ≤ 1000000 then some (r.mergeSort fun x y => decide (x ≤ y)) else none) else none
theorem impl_pieces.mono : ∀ a0 a1 k, LeO (impl_pieces.f k a0 a1) (impl_pieces.f (k + 1) a0 a1) := by
  intro a0 a1 k r h
  unfold impl_pieces.f at h ⊢
  obtain ⟨x, h1, h2⟩ := Option.bind_eq_some_iff.mp h
  rw [impl_parts.mono a0 a1 k x h1]
  exact h2
set_option maxHeartbeats 1600000 in
theorem impl_pieces.calls (k : Nat) (a0 : Int) (A1 : Option Addr) (c1 : Nat) (l1 : List Int) (r : List Int) (w : World) (hr1 : Kd.C (Kd.int .i64) w A1 l1.length l1) (hc1 : l1.length ≤ c1) (h : impl_pieces.f k a0 l1 = some r) :
    Calls Try.prog 34 #[.int .i64 a0, .slice A1 l1.length c1] w fun e w' => ∃ v0_ : Value, e = .returned (v0_) ∧ Kd.R (Kd.int .i64) 3 w' w.heap.size (fun _ => True) v0_ r ∧ Below w.heap.size w w' := by
  unfold impl_pieces.f at h
  obtain ⟨x, h1, h⟩ := Option.bind_eq_some_iff.mp h
  by_cases hx0 : 0 < x.length
  · by_cases hx1 : x.length ≤ 1000000
    · rw [if_pos hx0, if_pos hx1] at h
      obtain rfl := Option.some.inj h
      have HR := Aside0.mk hr1
      have HF := Aside0.mk h1
      have HX := Aside0.mk (And.intro hx0 hx1)
      clear h h1 hr1 hx0 hx1
      go_enter Try.func34, Try.ntmps34
      go_wp2_with (first
        | (go_at_call 44; refine (impl_parts.calls k a0 A1 c1 l1 x _ HR.out hc1 HF.out).mono ?_; rintro e w1 ⟨v1, rfl, ho, hb⟩; have HO := Aside0.mk ho; have HB := Aside0.mk hb; clear ho hb)
        | (go_at_call 45; refine (sortR HO.out HX.out.1 (by have := HX.out.2; omega)).mono ?_; rintro e w2 ⟨rfl, ho2, hg2⟩; have HO2 := Aside0.mk ho2; have HG2 := Aside0.mk hg2; clear ho2 hg2))
      go_ret
      obtain ⟨inner, ho'⟩ := Kd.R_own HO.out
      exact ⟨_, rfl, HO2.out, HB.out.grown HG2.out HB.out.size (own_base ho')⟩
    · rw [if_pos hx0, if_neg hx1] at h; cases h
  · rw [if_neg hx0] at h; cases h


/-! ### impl_pays: function 20 -/
def impl_pays.f (k : Nat) (a0 : Int) (l1 : List Int) : Option (Bool) := (impl_pieces.f k a0 l1).bind fun t187 => ((impl_run.f k t187).bind fun t190 => (some (t190 == a0)))
theorem impl_pays.mono : ∀ a0 a1 k, LeO (impl_pays.f k a0 a1) (impl_pays.f (k + 1) a0 a1) := by
  intro a0 a1 k
  unfold impl_pays.f
  repeat' first
      | (with_reducible exact impl_pieces.mono _ _ _)
      | (with_reducible exact impl_run.mono _ _)
      | (with_reducible exact LeO.refl _)
      | (with_reducible exact LeO.none _)
      | (with_reducible refine LeO.ite ?_ ?_)
      | (with_reducible refine LeO.bind ?_ (fun _ => ?_))
      | exact impl_pieces.mono _ _ _
      | exact impl_run.mono _ _
      | exact LeO.none _
      | refine LeO.ite ?_ ?_
      | refine LeO.bind ?_ (fun _ => ?_)
set_option maxHeartbeats 8000000 in
set_option maxRecDepth 100000 in
theorem impl_pays.calls (k : Nat) (a0 : Int) (A1 : Option Addr) (c1 : Nat) (l1 : List Int) (r : Bool) (w : World) (hr1 : Kd.C (Kd.int .i64) w A1 l1.length l1) (hc1 : l1.length ≤ c1) (h : impl_pays.f k a0 l1 = some r) :
    Calls Try.prog 20 #[.int .i64 a0, .slice A1 l1.length c1] w fun e w' => e = .returned (.bool r) ∧ Below w.heap.size w w' := by
  have HR1 := Aside0.mk hr1
  have HC1 := Aside0.mk hc1
  clear hr1 hc1
  have HB := Aside0.mk (Below.refl w.heap.size w)
  have H : ((impl_pieces.f k a0 l1).bind fun t187 => ((impl_run.f k t187).bind fun t190 => (some (t190 == a0)))) = some r := h
  clear h
  replace H := Option.bind_eq_some_iff.mp H
  obtain ⟨t187, A30, H⟩ := H
  replace H : ((impl_run.f k t187).bind fun t190 => (some (t190 == a0))) = some r := H
  have A3 := Aside0.mk A30
  clear A30
  replace H := Option.bind_eq_some_iff.mp H
  obtain ⟨t190, A40, H⟩ := H
  replace H : (some (t190 == a0)) = some r := H
  have A4 := Aside0.mk A40
  clear A40
  obtain rfl := Option.some.inj H
  go_enter Try.func20, Try.ntmps20
  go_wp2_with (first | ((with_reducible refine gate_callee (f := 34) rfl ?_); refine goesL_ (some 7) rfl rfl Try.func34 (by kernel_rfl) rfl #[.int .i64 a0, .slice A1 l1.length c1] rfl (by (try simp only [List.map_toArray, List.map_cons, List.map_nil]); first | done | rfl | (simp only [List.length_drop, List.length_take]; rfl)) ?_; (with_reducible refine (impl_pieces.calls k a0 _ _ l1 t187 _ ?side1 ?side2 A3.out).mono ?_); (case side1 => repeat (first | exact HR1.out | (with_reducible refine Kd.C_alloc ?_ _) | (with_reducible refine Kd.C_drewN ?_ _) | (with_reducible refine Kd.C_drew ?_))); (case side2 => exact HC1.out); rintro e w5 ⟨v188, rfl, ho0, hb⟩; refine ⟨_, rfl, ?_⟩; have n0_ := Aside0.mk (Kd.R_lower ho0 (below_size (by repeat (first | (with_reducible first | exact HB.out | apply below_alloc | apply pw_below_drewN | apply below_drew1) | exact HB.out)))); have n1_ := Aside0.mk (below_step (by repeat (first | (with_reducible first | exact HB.out | apply below_alloc | apply pw_below_drewN | apply below_drew1) | exact HB.out)) hb); clear HB; have HO189 := n0_; have HB := n1_; clear n0_ n1_; (try clear hb); (try clear hb2); (try clear hk); (try clear hi); (try clear ho0); obtain ⟨Ao6, co6, eo6⟩ := Kd.R_slice HO189.out; subst eo6) | ((with_reducible refine gate_callee (f := 33) rfl ?_); refine goesL_ (some 8) rfl rfl Try.func33 (by kernel_rfl) rfl #[.slice Ao6 t187.length co6] rfl (by (try simp only [List.map_toArray, List.map_cons, List.map_nil]); first | done | rfl | (simp only [List.length_drop, List.length_take]; rfl)) ?_; (with_reducible refine (impl_run.calls k _ _ t187 t190 _ ?side1 ?side2 A4.out).mono ?_); (case side1 => repeat (first | exact (Kd.R_reads' HO189.out).2.2 | (with_reducible refine Kd.C_alloc ?_ _) | (with_reducible refine Kd.C_drewN ?_ _) | (with_reducible refine Kd.C_drew ?_))); (case side2 => exact (Kd.R_reads' HO189.out).2.1); rintro e w' ⟨rfl, ⟨nd, rfl⟩⟩; refine ⟨_, rfl, ?_⟩))
  go_ret
  exact ⟨by first | rfl | (simp [errW_none, errW_some] <;> rfl) | (simp [*, errW_none, errW_some] <;> rfl), by repeat (first | (with_reducible first | exact HB.out | apply below_alloc | apply pw_below_drewN | apply below_drew1) | exact HB.out)⟩

/-! ### slices_Clone_int_int: function 27 -/
/-- A copy. -/
def slices_Clone_int_int.f (l0 : List Int) : Option (List Int) := if l0.length < 4398046511104 then (some l0) else (none)
set_option maxHeartbeats 2000000 in
set_option maxRecDepth 100000 in
theorem slices_Clone_int_int.calls (A0 : Option Addr) (c0 : Nat) (l0 : List Int) (r : List Int) (w : World) (hr0 : Kd.C (Kd.int .i64) w A0 l0.length l0) (hc0 : l0.length ≤ c0) (h : slices_Clone_int_int.f l0 = some r) :
    Calls Try.prog 27 #[.slice A0 l0.length c0] w fun e w' => ∃ v0_ : Value, e = .returned (v0_) ∧ Kd.R (Kd.int .i64) 3 w' w.heap.size (fun _ => True) v0_ r ∧ Below w.heap.size w w' := by
  have HR0 := Aside0.mk hr0
  have HB := Aside0.mk (Below.refl w.heap.size w)
  by_cases c2 : l0.length < 4398046511104
  · have H : l0 = r := by unfold slices_Clone_int_int.f at h; rw [if_pos c2] at h; exact Option.some.inj h
    subst H
    clear h
    have LM := Aside0.mk c2
    clear c2 hr0 hc0
    cases A0 with
    | none =>
      have hnil := fun W => Go.Lib.run_eql_slice_nil (P := Try.prog) W 22 3 none l0.length c0 0 0 Try.underlying22
      go_enter Try.func27, Try.ntmps27
      go_wp2
      go_ret
      have e0 : l0 = [] := by
        rcases l0 with _ | ⟨x, s⟩
        · rfl
        · obtain ⟨ad, he, _⟩ := HR0.out.2.2 (by simp)
          cases he
      subst e0
      exact ⟨_, rfl, Kd.R_nil _ _ _ _ _, Below.refl _ _⟩
    | some ad =>
      have hnil := fun W => Go.Lib.run_eql_slice_nil (P := Try.prog) W 22 3 (some ad) l0.length c0 0 0 Try.underlying22
      go_enter Try.func27, Try.ntmps27
      go_wp2_with (first | ((with_reducible refine gate_dst (N := 5) rfl ?_); refine Kd.R_lit (Kd.int .i64) _ 3 ?hg (N := 5) ?hd (xs := ([] : List Int)) (inner := []) (ok := fun _ => True) (okp := fun _ => True) ?hr ?hp (fun _ hk => hk) trivial (Below.refl _ _) (Nat.le_refl _) (by simp) ?_; (case hd => rfl); (case hg => rfl); (case hr => first | (go_simp; done) | (go_simp; rfl)); (case hp => exact (Reps.none _ _)); intro v120 w3 ho4 hb hg_ hnew_; clear hg_ hnew_; have n0_ := Aside0.mk (Kd.R_lower ho4 (below_size (by repeat (first | (with_reducible first | exact HB.out | apply below_alloc | apply pw_below_drewN | apply below_drew1) | exact HB.out)))); have n1_ := Aside0.mk (below_step (by repeat (first | (with_reducible first | exact HB.out | apply below_alloc | apply pw_below_drewN | apply below_drew1) | exact HB.out)) hb); clear HB; have HO121 := n0_; have HB := n1_; clear n0_ n1_; clear hb ho4) | ((with_reducible refine gate_builtin (b := .append) (xs := #[.tmp 5, .tmp 6]) rfl ?_); at_builtin; refine Kd.R_append_rows (Kd.int .i64) (w0 := w) w.heap.size rfl (.tmp 5) (.tmp 6) 22 3 (.int .i64 0) 8 rfl Try.underlying22 info3 rfl (by decide) (by omega) v120 [] l0 _ _ _ (fun _ => True) (fun _ => False) rfl rfl ?aO ?aR (fun _ _ h => h) (fun _ h => h.elim) ?aF ?aB ?aS ?aL ?_; (case aR => repeat (first | exact (Kd.C_below HR0.out HB.out) | (with_reducible refine Kd.C_alloc ?_ _) | (with_reducible refine Kd.C_drewN ?_ _) | (with_reducible refine Kd.C_drew ?_))); (case aB => exact (by repeat (first | (with_reducible first | exact HB.out | apply below_alloc | apply pw_below_drewN | apply below_drew1) | exact HB.out))); (case aF => exact (fun _ _ => trivial)); (case aO => exact (by (with_reducible repeat (first | apply Kd.R_alloc | apply Kd.R_drewN | apply Kd.R_drew)); exact HO121.out)); (case aS => exact (below_size (by repeat (first | (with_reducible first | exact HB.out | apply below_alloc | apply pw_below_drewN | apply below_drew1) | exact HB.out)))); (case aL => have := LM.out; simp; omega); intro v123 w5 ho hb hg hat; have n0_ := Aside0.mk (hb); have n1_ := Aside0.mk (ho); clear HB; clear HO121; have HB := n0_; have HO124 := n1_; clear n0_ n1_; clear ho hb hg hat))
      go_ret
      exact ⟨_, rfl, HO124.out, HB.out⟩
  · unfold slices_Clone_int_int.f at h
    rw [if_neg c2] at h
    cases h


/-! ### impl_allPaying_1: function 26 -/
-- GIVEN loop.example/g01305/impl.allPaying$1 raw=1
-- NEEDS slices.Clone[[]int,int] ; loop.example/g01305/impl.pays
-- USES comb
/-- Those lists for which the cuts pay. -/
def payI (k : Nat) (links : Int) (l : List Int) : Bool := (impl_pays.f k links l).getD false
/-- The variables that stay as they are. -/
def Bx3 (gM gL gP : Nat) (many links : Int) (fv : Value) (w : World) : Prop := w.heap[gM]? = some (.cells #[.int .i64 many] 3 (0, 0)) ∧ w.heap[gL]? = some (.cells #[.int .i64 links] 3 (0, 0)) ∧ w.heap[gP]? = some (.cells #[fv] 44 (0, 0))
theorem Bx3.below {gM gL gP : Nat} {many links : Int} {fv : Value} {w w' : World} (h : Bx3 gM gL gP many links fv w) (hb : Below w.heap.size w w') : Bx3 gM gL gP many links fv w' := ⟨blk_below h.1 hb, blk_below h.2.1 hb, blk_below h.2.2 hb⟩
theorem Bx3.grown {gM gL gP : Nat} {many links : Int} {fv v : Value} {w w' : World} (h : Bx3 gM gL gP many links fv w) (hg : w.grownBy w' v.ownBlock) (h1 : some gM ≠ v.ownBlock) (h2 : some gL ≠ v.ownBlock) (h3 : some gP ≠ v.ownBlock) : Bx3 gM gL gP many links fv w' := ⟨blk_grown h.1 hg h1, blk_grown h.2.1 hg h2, blk_grown h.2.2 hg h3⟩
theorem Bx3.far {gM gL gP gO : Nat} {many links : Int} {fv u v : Value} {w : World} (h : Bx3 gM gL gP many links fv w) (hO : w.heap[gO]? = some (.cells #[v] 32 (0, 0))) : Bx3 gM gL gP many links fv (w.setCell ⟨gO, 0, none⟩ u) :=
  ⟨blk_far h.1 (p := ⟨gO, 0, none⟩) (blk_ne h.1 hO (by decide)) u, blk_far h.2.1 (p := ⟨gO, 0, none⟩) (blk_ne h.2.1 hO (by decide)) u, blk_far h.2.2 (p := ⟨gO, 0, none⟩) (blk_ne h.2.2 hO (by decide)) u⟩
/-- What a look has done: the box has rows, the other variables and the elder blocks are kept. -/
def PayP (gO gM gL gP : Nat) (many links : Int) (fv : Value) (base : Nat) (w0 w : World) (v0 : Value) (tot : List (List Int)) (w' : World) : Prop :=
  ∃ v', w'.heap[gO]? = some (.cells #[v'] 32 (0, 0)) ∧ Bx3 gM gL gP many links fv w' ∧ Kd.S (Kd.slice 3 (Kd.int .i64)) 22 w' base (fun _ => True) v' tot ∧ Kept w w' (fun k => k = gO ∨ some k = v0.ownBlock) ∧ (∀ k, v'.ownBlock = some k → v0.ownBlock = some k ∨ w.heap.size ≤ k) ∧ Below base w0 w'

set_option maxHeartbeats 4000000 in
set_option maxRecDepth 100000 in
theorem allPaying_1 (k : Nat) (links many : Int) (hlk : links ≤ 1000) (hmk : 0 ≤ many ∧ many ≤ 1000) (gM gL gO gP base : Nat) (w0 : World) (hbO : base ≤ gO) : ∀ (d : Nat) (A : Option Addr) (c : Nat) (l : List Int) (p : Int) (v : Value) (xs : List (List Int)) (w : World),
    (l.length : Int) + d = many → 0 ≤ p → p ≤ 1001 → (∀ l' ∈ combL links d l p, (impl_pays.f k links l').isSome = true) → (xs ++ (combL links d l p).filter (payI k links)).length ≤ 1000000 →
    w.heap[gO]? = some (.cells #[v] 32 (0, 0)) → Bx3 gM gL gP many links (.func (.func 26) #[] #[.pointer (some ⟨gM, 0, none⟩), .pointer (some ⟨gL, 0, none⟩), .pointer (some ⟨gO, 0, none⟩), .pointer (some ⟨gP, 0, none⟩)]) w →
    Below base w0 w → base ≤ w.heap.size →
    Kd.S (Kd.slice 3 (Kd.int .i64)) 22 w base (fun k => some k ≠ (Value.slice A l.length c).ownBlock) v xs →
    Kd.R (Kd.int .i64) 3 w base (fun _ => True) (.slice A l.length c) l →
    Calls Try.prog 26 #[.slice A l.length c, .int .i64 p, .pointer (some ⟨gM, 0, none⟩), .pointer (some ⟨gL, 0, none⟩), .pointer (some ⟨gO, 0, none⟩), .pointer (some ⟨gP, 0, none⟩)] w fun e w' => e = .returned (.tuple #[]) ∧ PayP gO gM gL gP many links (.func (.func 26) #[] #[.pointer (some ⟨gM, 0, none⟩), .pointer (some ⟨gL, 0, none⟩), .pointer (some ⟨gO, 0, none⟩), .pointer (some ⟨gP, 0, none⟩)]) base w0 w v (xs ++ (combL links d l p).filter (payI k links)) w' := by
  intro d
  induction d with
  | zero =>
    intro A c l p v xs w hl hp0 hp1 hsome hlen hO hX hB hbase hS hR
    obtain ⟨r, hr⟩ := Option.isSome_iff_exists.1 (hsome l (by simp [combL]))
    have hpay : payI k links l = r := by unfold payI; rw [hr]; rfl
    have hcl : (combL links 0 l p).filter (payI k links) = if r = true then [l] else [] := by
      simp only [combL, List.filter_cons, List.filter_nil, hpay]
    rw [hcl] at hlen ⊢
    have HO := Aside0.mk hO
    have HX := Aside0.mk hX
    have HB := Aside0.mk hB
    have HBS := Aside0.mk hbase
    have HS := Aside0.mk hS
    have HR := Aside0.mk hR
    have HL := Aside0.mk hlen
    have HF := Aside0.mk hr
    have HRd := Aside0.mk (Kd.R_reads' hR)
    have hcM : w.cell? ⟨gM, 0, none⟩ = some (.int .i64 many) := (blk_cell hX.1 0).trans rfl
    have hcL : w.cell? ⟨gL, 0, none⟩ = some (.int .i64 links) := (blk_cell hX.2.1 0).trans rfl
    have hlm : ((l.length : Int) == many) = true := by simp; omega
    clear hO hX hB hbase hS hR hlen hr hsome hpay hcl
    cases r with
    | false =>
      go_enter Try.func26, Try.ntmps26
      go_wp2_with (go_at_call 20; refine (impl_pays.calls k links A c l false _ HRd.out.2.2 HRd.out.2.1 HF.out).mono ?_; rintro e w1 ⟨rfl, hb1⟩; have HB1 := Aside0.mk hb1; clear hb1)
      refine bodyPost_ret (results_none rfl _ _ _) rfl ?_
      refine ⟨rfl, v, blk_below HO.out HB1.out, HX.out.below HB1.out, ?_, (Kept.refl w _).below HB1.out, fun k hk => .inl hk, below_then HB.out HBS.out HB1.out⟩
      first | exact Kd.S_mono (Kd.S_below HS.out HB1.out) (fun _ _ => trivial) | (rw [if_neg (by decide), List.append_nil]; exact Kd.S_mono (Kd.S_below HS.out HB1.out) (fun _ _ => trivial))
    | true =>
      go_enter Try.func26, Try.ntmps26
      go_wp2_with (first
        | (go_at_call 20; refine (impl_pays.calls k links A c l true _ HRd.out.2.2 HRd.out.2.1 HF.out).mono ?_; rintro e w2 ⟨rfl, hb2⟩; have hcO2 : w2.cell? ⟨gO, 0, none⟩ = some v := (blk_cell (blk_below HO.out hb2) 0).trans rfl; have HB2 := Aside0.mk hb2; clear hb2)
        | ((with_reducible refine gate_builtin (b := .append) (xs := #[.tmp 16, .tmp 18]) rfl ?_); at_builtin; refine Aside0.out ?_))
      refine Aside0.mk ?_
      have HO2 := Aside0.mk (blk_below HO.out HB2.out)
      have HX2 := Aside0.mk (HX.out.below HB2.out)
      have HS2 := Aside0.mk (Kd.S_below HS.out HB2.out)
      have HR2 := Aside0.mk (Kd.R_below HR.out HB2.out)
      refine Kd.S_append (Kd.slice 3 (Kd.int .i64)) (w0 := w0) base rfl (.tmp 16) (.tmp 18) 32 22 (.slice none 0 0) 24 rfl Try.underlying32 info22 rfl (by decide) (by omega) v xs l [.slice A l.length c] (fun _ => True) (fun k => some k = (Value.slice A l.length c).ownBlock) rfl (by first | (go_simp; done) | (go_simp; rfl)) ?aP ?aK ?aF ?aO ?aB ?aS ?aL ?_
      (case aP => exact Kd.M_row (Kd.R_mono (Kd.R_tight rfl HR2.out) (fun _ h_ => h_)))
      (case aK => intro k hk; refine ⟨trivial, fun e => ?_⟩; obtain ⟨cs1, h1⟩ := Kd.R_typed HR2.out k hk.symm; obtain ⟨cs2, h2⟩ := Kd.S_typed HS2.out k e.symm; rw [h1] at h2; cases h2)
      (case aF => exact fun _ _ => trivial)
      (case aO => exact (Kd.S_mono HS2.out (fun k hk => ⟨trivial, hk⟩)))
      (case aB => exact below_then HB.out HBS.out HB2.out)
      (case aS => have := HBS.out; have := HB2.out.size; omega)
      (case aL => have := HL.out; simp at this; omega)
      intro v1 w1 ho hb hg hat
      obtain ⟨A1, c1, rfl⟩ := Kd.S_slice ho
      have hne := Kd.S_ne HS2.out HO2.out (by decide)
      have HO1 := Aside0.mk (blk_grown HO2.out hg hne)
      have HX1 := Aside0.mk (HX2.out.grown hg (Kd.S_ne HS2.out HX2.out.1 (by decide)) (Kd.S_ne HS2.out HX2.out.2.1 (by decide)) (Kd.S_ne HS2.out HX2.out.2.2 (by decide)))
      have hcO1 : w1.cell? ⟨gO, 0, none⟩ = some v := (blk_cell HO1.out 0).trans rfl
      have hfO1 := blk_frozen HO1.out 0
      have HG := Aside0.mk hg
      have HT := Aside0.mk hat
      have HS1 := Aside0.mk ho
      have HB1 := Aside0.mk hb
      clear hb ho hg hat hcO2 hcM hcL
      go_wp2
      refine bodyPost_ret (results_none rfl _ _ _) rfl ?_
      have HO3 := Aside0.mk (blk_put HO1.out 0 (.slice A1 (xs ++ [l]).length c1) (cs' := #[.slice A1 (xs ++ [l]).length c1]) rfl)
      have HX3 := Aside0.mk (HX1.out.far (u := .slice A1 (xs ++ [l]).length c1) HO1.out)
      have HS3 := Aside0.mk (Kd.S_set HS1.out HO1.out (by decide) 0 (.slice A1 (xs ++ [l]).length c1))
      have HK3 := Aside0.mk (Kept.setCell (p := ⟨gO, 0, none⟩) (Kept.of_grown HG.out (Kept.refl w2 (fun k => k = gO ∨ some k = v.ownBlock)) (fun k e => .inl (.inr e.symm))) (.inl (.inl rfl)) (.slice A1 (xs ++ [l]).length c1))
      have HB3 := Aside0.mk (Below.setCell HB1.out (p := ⟨gO, 0, none⟩) hbO (.slice A1 (xs ++ [l]).length c1))
      have HT3 : Aside0 (∀ k, (Value.slice A1 (xs ++ [l]).length c1).ownBlock = some k → v.ownBlock = some k ∨ w.heap.size ≤ k) := ⟨fun k e => by
        rcases HT.out with h | ⟨b, h, hb⟩
        · exact .inl (h ▸ e)
        · rw [h] at e; cases e; exact .inr (Nat.le_trans HB2.out.size hb)⟩
      (try rw [show xs.length + 1 = (xs ++ [l]).length by simp])
      (try rw [if_pos rfl])
      exact ⟨rfl, _, HO3.out, HX3.out, HS3.out, ((Kept.refl w _).below HB2.out).then_ HK3.out (fun k hk => .inl hk), HT3.out, HB3.out⟩
  | succ d ih =>
    intro A c l p v xs w hl hp0 hp1 hsome hlen hO hX hB hbase hS hR
    have HSO := Aside0.mk hsome
    have HO := Aside0.mk hO
    have HX := Aside0.mk hX
    have HB := Aside0.mk hB
    have HBS := Aside0.mk hbase
    have HS := Aside0.mk hS
    have HR := Aside0.mk hR
    have HL := Aside0.mk hlen
    have IH := Aside0.mk ih
    have hcM : w.cell? ⟨gM, 0, none⟩ = some (.int .i64 many) := (blk_cell hX.1 0).trans rfl
    have hlm : ((l.length : Int) == many) = false := by simp; omega
    clear hO hX hB hbase hS hR hlen ih hsome
    go_enter Try.func26, Try.ntmps26
    go_wp2
    clear hcM hlm
    go_loopg [8] (links - p).toNat (fun gg v8 w' => ∃ (q : Int) (v' : Value) (xs' : List (List Int)), v8 = .int .i64 q ∧ Aside0 (0 ≤ q ∧ q ≤ 1001 ∧ (links - q).toNat ≤ gg) ∧ Aside0 (w'.heap[gO]? = some (.cells #[v'] 32 (0, 0))) ∧ Aside0 (Bx3 gM gL gP many links (.func (.func 26) #[] #[.pointer (some ⟨gM, 0, none⟩), .pointer (some ⟨gL, 0, none⟩), .pointer (some ⟨gO, 0, none⟩), .pointer (some ⟨gP, 0, none⟩)]) w') ∧ Aside0 (Kd.S (Kd.slice 3 (Kd.int .i64)) 22 w' base (fun _ => True) v' xs') ∧ Aside0 (Kept w w' (fun k => k = gO ∨ some k = v.ownBlock)) ∧ Aside0 (∀ k, v'.ownBlock = some k → v.ownBlock = some k ∨ w.heap.size ≤ k) ∧ Aside0 (Below base w0 w') ∧ Aside0 (xs' ++ (combR links d l q).filter (payI k links) = xs ++ (combL links (d + 1) l p).filter (payI k links)) ∧ Aside0 (∀ l' ∈ combR links d l q, (impl_pays.f k links l').isSome = true))
    case atStart => exact ⟨p, v, xs, rfl, ⟨hp0, by omega, by omega⟩, HO, HX, ⟨Kd.S_mono HS.out (fun _ _ => trivial)⟩, ⟨Kept.refl w _⟩, ⟨fun k hk => .inl hk⟩, HB, ⟨rfl⟩, ⟨HSO.out⟩⟩
    case round =>
      obtain ⟨q, v', xs', rfl, HQ, HO', HX', HS', HK', HT', HB', HC, HSQ⟩ := hrel
      have ⟨hq0, hq1, hqg⟩ := HQ.out
      have hcL : wr.cell? ⟨gL, 0, none⟩ = some (.int .i64 links) := (blk_cell HX'.out.2.1 0).trans rfl
      by_cases hq : q < links
      · have hqd := decide_eq_true hq
        have hcP : wr.cell? ⟨gP, 0, none⟩ = some (.func (.func 26) #[] #[.pointer (some ⟨gM, 0, none⟩), .pointer (some ⟨gL, 0, none⟩), .pointer (some ⟨gO, 0, none⟩), .pointer (some ⟨gP, 0, none⟩)]) := (blk_cell HX'.out.2.2 0).trans rfl
        have HRw := Aside0.mk (Kd.R_reads' (Kd.R_kept (Kd.R_tight rfl HR.out) HK'.out (fun k hk h => by
          obtain ⟨cs1, h1⟩ := Kd.R_typed HR.out k hk.symm
          rcases h with rfl | h
          · rw [HO.out] at h1; cases h1
          · obtain ⟨cs2, h2⟩ := Kd.S_typed HS.out k h.symm; rw [h1] at h2; cases h2)))
        have hl4 : l.length ≤ 1000 := by omega
        have HW := Aside0.mk (Below.refl wr.heap.size wr)
        go_wp2_with fail
        have hw1 : IntKind.i64.wrap (q + 1) = q + 1 := (IntKind.wrap_i64 _).trans (by omega)
        have hbw : base ≤ wr.heap.size := Nat.le_trans HBS.out HK'.out.1
        have hle4 : ((l ++ [q]).length : Int) + d = many := by simp; omega
        have hC2 : (xs' ++ (combL links d (l ++ [q]) (IntKind.i64.wrap (q + 1))).filter (payI k links)) ++ (combR links d l (q + 1)).filter (payI k links) = xs ++ (combL links (d + 1) l p).filter (payI k links) := by have e := HC.out; rw [combR_step links d l q hq, List.filter_append] at e; rw [hw1, List.append_assoc]; exact e
        have hXl : (xs' ++ (combL links d (l ++ [q]) (IntKind.i64.wrap (q + 1))).filter (payI k links)).length ≤ 1000000 := by have e := HL.out; rw [← hC2, List.length_append] at e; omega
        have hsq1 : ∀ l' ∈ combL links d (l ++ [q]) (IntKind.i64.wrap (q + 1)), (impl_pays.f k links l').isSome = true := fun l' hl' => HSQ.out l' (by rw [combR_step links d l q hq, List.mem_append]; rw [hw1] at hl'; exact .inl hl')
        have hsq2 : ∀ l' ∈ combR links d l (q + 1), (impl_pays.f k links l').isSome = true := fun l' hl' => HSQ.out l' (by rw [combR_step links d l q hq, List.mem_append]; exact .inr hl')
        have HC2 := Aside0.mk hC2
        have HXl := Aside0.mk hXl
        have HLE := Aside0.mk hle4
        have HBW := Aside0.mk hbw
        have HW1 := Aside0.mk hw1
        have HSQ1 := Aside0.mk hsq1
        have HSQ2 := Aside0.mk hsq2
        clear hC2 hXl hle4 hbw HC hw1 hsq1 hsq2 hcL
        go_region_held_law (fun w' => w'.cell? ⟨gP, 0, none⟩ = some (.func (.func 26) #[] #[.pointer (some ⟨gM, 0, none⟩), .pointer (some ⟨gL, 0, none⟩), .pointer (some ⟨gO, 0, none⟩), .pointer (some ⟨gP, 0, none⟩)]))
          (first | exact pw_cell_below HB3.out hcP | exact pw_cell_below HB4.out hcP | exact (blk_cell HX5.out.2.2 0).trans rfl | go_keep)
          (first
            | (go_at_call 27; refine (slices_Clone_int_int.calls A c l l _ (by first | exact Kd.C_drew HRw.out.2.2 | exact Kd.C_alloc (Kd.C_drew HRw.out.2.2) _) HRw.out.2.1 (by unfold slices_Clone_int_int.f; rw [if_pos (by omega)])).mono ?_; rintro e w3 ⟨v3, rfl, ho3, hb3⟩; have HB3 : Aside0 (Below wr.heap.size wr w3) := ⟨by first | exact below_step (below_drew (Below.refl _ _)) hb3 | exact below_step (below_alloc (below_drew (Below.refl _ _)) _) hb3⟩; have HO3 : Aside0 (Kd.R (Kd.int .i64) 3 w3 wr.heap.size (fun _ => True) v3 l) := ⟨Kd.R_lower ho3 (by simp)⟩; (try have HQ3 := Aside0.mk (pw_cell_below hb3 (show ((wr.drew).alloc (.cells #[.int .i64 q] 3)).cell? ⟨wr.heap.size, 0, none⟩ = some (.int .i64 q) from (blk_cell (blk_new wr.drew _) 0).trans rfl))); clear ho3 hb3)
            | (refine step_E (by rfl) (Kd.R_append_rows_step (Kd.int .i64) (w0 := wr) wr.heap.size (by rfl) (.tmp 28) (.tmp 30) 22 3 (.int .i64 0) 8 rfl Try.underlying22 info3 rfl (by decide) (by omega) v3 l [q] _ _ _ (fun _ => True) (fun _ => False) rfl rfl ?aO ?aR (fun _ _ h => h) (fun _ h => h.elim) (fun _ _ => trivial) ?aB ?aS ?aL ?_); (case aO => first | exact HO3.out | exact Kd.R_alloc HO3.out _); (case aR => first | exact C_one HQ3.out | exact C_one ((blk_cell (blk_new w3 _) 0).trans rfl)); (case aB => first | exact HB3.out | exact below_alloc HB3.out _); (case aS => have := HB3.out.size; first | omega | (simp; omega)); (case aL => omega); intro v4 w4 ho4 hb4 hg4 hat4; obtain ⟨A4, c4, rfl⟩ := Kd.R_slice ho4; have HO4 := Aside0.mk ho4; have HB4 := Aside0.mk hb4; clear ho4 hb4 hg4 hat4; have ih4 := IH.out A4 c4 (l ++ [q]) (IntKind.i64.wrap (q + 1)) v' xs' w4 HLE.out (by rw [HW1.out]; omega) (by rw [HW1.out]; omega) HSQ1.out HXl.out (blk_below HO'.out HB4.out) (HX'.out.below HB4.out) (below_then HB'.out HBW.out HB4.out) (Nat.le_trans HBW.out HB4.out.size) (Kd.S_mono (Kd.S_elder' HS'.out (Kd.R_base HO4.out) HB4.out) (fun k hk => hk.2)) (Kd.R_lower HO4.out HBW.out); rw [show (l ++ [q]).length = l.length + 1 from by simp] at ih4; have IHQ := Aside0.mk ih4; clear ih4)
            | (go_at_call 26; refine IHQ.out.mono ?_; rintro e w5 ⟨rfl, v5, hO5, hX5, hS5, hK5, hT5, hB5⟩; have HO5 := Aside0.mk hO5; have HX5 := Aside0.mk hX5; have HS5 := Aside0.mk hS5; have HK5 := Aside0.mk hK5; have HT5 := Aside0.mk hT5; have HB5 := Aside0.mk hB5; clear hO5 hX5 hS5 hK5 hT5 hB5))
        all_goals (clear hcP; go_wp2)
        all_goals
          go_roundg (gk - 1)
          case measure => have := HQ.out; omega
          case rel =>
            refine ⟨q + 1, v5, _, (by first | rfl | rw [show wrap64 (q + 1) = q + 1 by unfold wrap64; omega]), ⟨by omega, by omega, by omega⟩, HO5, HX5, HS5, ⟨?_⟩, ⟨?_⟩, HB5, HC2, HSQ2⟩
            · exact (HK'.out.below HB4.out).then_ HK5.out (fun k hk => by
                rcases hk with hk | hk
                · exact .inl (.inl hk)
                · rcases HT'.out k hk.symm with h | h
                  · exact .inl (.inr h.symm)
                  · exact .inr h)
            · intro k hk
              rcases HT5.out k hk with h | h
              · exact HT'.out k h
              · exact .inr (Nat.le_trans (Nat.le_trans HK'.out.1 HB4.out.size) h)
      · have hqd := decide_eq_false hq
        go_wp2
        refine bodyPost_end (results_none rfl _ _ _) rfl ⟨rfl, v', HO'.out, HX'.out, ?_, HK'.out, HT'.out, HB'.out⟩
        have e := HC.out
        rw [combR_end _ _ _ _ (by omega), List.filter_nil, List.append_nil] at e
        rw [← e]; exact HS'.out


end Go.Proofs.Ytbpmakcgiepkhaa.PFnExactFirstCuts
