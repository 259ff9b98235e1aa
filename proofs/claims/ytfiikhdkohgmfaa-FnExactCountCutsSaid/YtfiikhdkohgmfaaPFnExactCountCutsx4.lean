-- MADE FOR THIS CLAIM by wip/xp/xprint.py (with the kit's print; some functions' contracts proved by hand)
import Derived.Test.YtfiikhdkohgmfaaPFnExactCountCutsx0
import Derived.Test.YtfiikhdkohgmfaaPFnExactCountCutsx2
import Derived.Test.YtfiikhdkohgmfaaPFnExactCountCutsx3
namespace Go.Proofs.Ytfiikhdkohgmfaa.PFnExactCountCuts
open Go.RowKit Go.Proofs.YtfiikhdkohgmfaaW.PrintWords Go.Proofs.YtfiikhdkohgmfaaW.PrintLast Go.Proofs.YtfiikhdkohgmfaaW.PrintMore
attribute [local go_sem] max2_int min2_int max_two min_two max_three min_three max_four min_four   -- for this text's walks alone
set_option linter.unusedVariables false
set_option linter.unusedSimpArgs false

/-! ### impl_allPaying: function 105 -/
-- GIVEN loop.example/g01305/impl.allPaying rounds=1 only=1
-- NEEDS loop.example/g01305/impl.within ; loop.example/g01305/impl.FewestCuts ; loop.example/g01305/impl.allPaying$1
/-- All cuts that pay, of the least number, if that can be told of each. -/
def allPayO (k : Nat) (links many : Int) : Option (List (List Int) × Bool) := if 0 ≤ many ∧ many ≤ 1000 ∧ (combL links many.toNat [] 0).all (fun l => (impl_pays.f k links l).isSome) = true ∧ ((combL links many.toNat [] 0).filter (payI k links)).length ≤ 1000000 then some ((combL links many.toNat [] 0).filter (payI k links), true) else none
def impl_allPaying.f (k : Nat) (links : Int) : Option (List (List Int) × Bool) := if 1 ≤ links ∧ links ≤ 63 then (fewO links k 0).bind fun many => allPayO k links many else some ([], false)
theorem allPayO_mono (k : Nat) (links many : Int) : LeO (allPayO k links many) (allPayO (k + 1) links many) := by
  intro r h
  unfold allPayO at h ⊢
  by_cases c : 0 ≤ many ∧ many ≤ 1000 ∧ (combL links many.toNat [] 0).all (fun l => (impl_pays.f k links l).isSome) = true ∧ ((combL links many.toNat [] 0).filter (payI k links)).length ≤ 1000000
  · rw [if_pos c] at h
    have e : ∀ l ∈ combL links many.toNat [] 0, impl_pays.f (k + 1) links l = impl_pays.f k links l := by
      intro l hl
      have := List.all_eq_true.1 c.2.2.1 l hl
      obtain ⟨r, hr⟩ := Option.isSome_iff_exists.1 this
      rw [hr, impl_pays.mono _ _ k r hr]
    have e2 : (combL links many.toNat [] 0).filter (payI (k + 1) links) = (combL links many.toNat [] 0).filter (payI k links) := List.filter_congr (fun l hl => by unfold payI; rw [e l hl])
    rw [e2, if_pos ⟨c.1, c.2.1, List.all_eq_true.2 (fun l hl => by rw [e l hl]; exact List.all_eq_true.1 c.2.2.1 l hl), c.2.2.2⟩, ← h]
  · rw [if_neg c] at h; cases h
theorem impl_allPaying.mono : ∀ (links : Int) k, LeO (impl_allPaying.f k links) (impl_allPaying.f (k + 1) links) := by
  intro links k r h
  unfold impl_allPaying.f at h ⊢
  by_cases c : 1 ≤ links ∧ links ≤ 63
  · rw [if_pos c] at h ⊢
    obtain ⟨m, h1, h2⟩ := Option.bind_eq_some_iff.1 h
    rw [fewO_mono links k 0 m h1, Option.bind_some]
    exact allPayO_mono k links m r h2
  · rw [if_neg c] at h ⊢; exact h
set_option maxHeartbeats 4000000 in
set_option maxRecDepth 100000 in
theorem impl_allPaying.calls (k : Nat) (a0 : Int) (r1 : List (List Int)) (r2 : Bool) (w : World) (h : impl_allPaying.f k a0 = some (r1, r2)) :
    Calls Try.prog 105 #[.int .i64 a0] w fun e w' => ∃ v0_ : Value, e = .returned (.tuple #[v0_, .bool r2]) ∧ Kd.S (Kd.slice 3 (Kd.int .i64)) 26 w' w.heap.size (fun _ => True) v0_ r1 ∧ Below w.heap.size w w' := by
  unfold impl_allPaying.f at h
  have hin : impl_within.f a0 1 63 = some (decide (1 ≤ a0 ∧ a0 ≤ 63)) := by
    unfold impl_within.f
    by_cases c : 1 ≤ a0
    · rw [if_pos c]; simp [c]
    · rw [if_neg c]; simp [c]
  by_cases c : 1 ≤ a0 ∧ a0 ≤ 63
  · rw [if_pos c] at h
    rw [decide_eq_true c] at hin
    obtain ⟨many, hfew, h⟩ := Option.bind_eq_some_iff.1 h
    unfold allPayO at h
    by_cases c2 : 0 ≤ many ∧ many ≤ 1000 ∧ (combL a0 many.toNat [] 0).all (fun l => (impl_pays.f k a0 l).isSome) = true ∧ ((combL a0 many.toNat [] 0).filter (payI k a0)).length ≤ 1000000
    · rw [if_pos c2] at h
      obtain ⟨rfl, rfl⟩ := Prod.mk.inj (Option.some.inj h)
      have HIN := Aside0.mk hin
      have HFE := Aside0.mk (fun W => FewestCuts_calls a0 many c.1 (by omega) k hfew W)
      have HC2 := Aside0.mk c2
      have HC1 := Aside0.mk c
      clear h hin hfew c c2
      have hmf : ∀ (fn : Fn) (first cap : Array Value) (w : World), (Instr.makeFunc fn first cap).run Try.prog w = .ok (.func fn first cap) w := fun _ _ _ _ => rfl
      have hsf : ∀ (a : Addr) (fn : Fn) (x y : Array Value) (m : Mode) (w : World), (store a (.func fn x y) m).run Try.prog w = stored Try.prog w a (.func fn x y) m := fun a fn x y m w => run_store Try.prog w a _ m rfl
      go_enter Try.func105, Try.ntmps105
      go_wp2_with (first
        | (go_at_call 93; refine (impl_within.calls a0 1 63 true _ HIN.out).mono ?_; rintro e w1 ⟨rfl, hd1⟩; have HL1 := Aside0.mk (blk_below (blk_new w (.cells #[.int .i64 a0] 3)) hd1.below); have HB1 := Aside0.mk (below_step (below_alloc (Below.refl w.heap.size w) _) hd1.below); have hcL1 : w1.cell? ⟨w.heap.size, 0, none⟩ = some (.int .i64 a0) := (blk_cell HL1.out 0).trans rfl; clear hd1)
        | (go_at_call 144; refine (HFE.out _).mono ?_; rintro e w2 ⟨rfl, hb2⟩; have HL2 := Aside0.mk (blk_below HL1.out hb2); have HB2 := Aside0.mk (below_step HB1.out hb2); clear hb2)
        | ((with_reducible refine gate_dst (N := 16) rfl ?_); refine Kd.S_lit (Kd.slice 3 (Kd.int .i64)) (w0 := w) w.heap.size 26 ?hg (N := 16) ?hd (xs := []) (inner := []) (ok := fun _ => True) (okp := fun _ => True) ?hr ?hp (fun _ hk => hk) trivial (below_alloc HB2.out _) (by have := HB2.out.size; simp; omega) (by simp) ?_; (case hd => rfl); (case hg => rfl); (case hr => first | (go_simp; done) | (go_simp; rfl)); (case hp => exact (Reps.none _ _)); intro v3 w3 ho3 hb3 hg3 hnew3; obtain ⟨A3, c3, rfl⟩ := Kd.S_slice ho3; have HM3 := Aside0.mk (blk_grown (blk_new w2 (.cells #[.int .i64 many] 3)) hg3 (by simp)); have HL3 := Aside0.mk (blk_grown (blk_alloc HL2.out (.cells #[.int .i64 many] 3)) hg3 (by simp)); clear hg3 hnew3; have HO3 := Aside0.mk ho3; have HB3 := Aside0.mk hb3; clear ho3 hb3)
        | ((with_reducible refine gate_dst (N := 19) rfl ?_); refine Kd.R_lit (Kd.int .i64) _ 3 ?hg (N := 19) ?hd (xs := []) (inner := []) (ok := fun _ => True) (okp := fun _ => True) ?hr ?hp (fun _ hk => hk) trivial (Below.refl _ _) (Nat.le_refl _) (by simp) ?_; (case hd => rfl); (case hg => rfl); (case hr => first | (go_simp; done) | (go_simp; rfl)); (case hp => exact (Reps.none _ _)); intro v6 w6 ho6 hb6 hg_ hnew_; obtain ⟨A6, c6, rfl⟩ := Kd.R_slice ho6; clear hg_ hnew_; refine Aside0.out ?_))
      refine Aside0.mk ?_
      have hO4 : ((w3.alloc (.cells #[.slice A3 0 c3] 38)).alloc (.cells #[.func (.func 145) #[] #[.pointer (some ⟨w2.heap.size, 0, none⟩), .pointer (some ⟨w.heap.size, 0, none⟩), .pointer (some ⟨w3.heap.size, 0, none⟩), .pointer (some ⟨w3.heap.size + 1, 0, none⟩)]] 121)).heap[w3.heap.size]? = some (.cells #[.slice A3 0 c3] 38 (0, 0)) := blk_alloc (blk_new w3 _) _
      have hP4 : ((w3.alloc (.cells #[.slice A3 0 c3] 38)).alloc (.cells #[.func (.func 145) #[] #[.pointer (some ⟨w2.heap.size, 0, none⟩), .pointer (some ⟨w.heap.size, 0, none⟩), .pointer (some ⟨w3.heap.size, 0, none⟩), .pointer (some ⟨w3.heap.size + 1, 0, none⟩)]] 121)).heap[w3.heap.size + 1]? = some (.cells #[.func (.func 145) #[] #[.pointer (some ⟨w2.heap.size, 0, none⟩), .pointer (some ⟨w.heap.size, 0, none⟩), .pointer (some ⟨w3.heap.size, 0, none⟩), .pointer (some ⟨w3.heap.size + 1, 0, none⟩)]] 121 (0, 0)) := by
        have := blk_new (w3.alloc (.cells #[.slice A3 0 c3] 38)) (.cells #[.func (.func 145) #[] #[.pointer (some ⟨w2.heap.size, 0, none⟩), .pointer (some ⟨w.heap.size, 0, none⟩), .pointer (some ⟨w3.heap.size, 0, none⟩), .pointer (some ⟨w3.heap.size + 1, 0, none⟩)]] 121)
        simpa using this
      have hM4 := blk_alloc (blk_alloc HM3.out (.cells #[.slice A3 0 c3] 38)) (.cells #[.func (.func 145) #[] #[.pointer (some ⟨w2.heap.size, 0, none⟩), .pointer (some ⟨w.heap.size, 0, none⟩), .pointer (some ⟨w3.heap.size, 0, none⟩), .pointer (some ⟨w3.heap.size + 1, 0, none⟩)]] 121)
      have hL4 := blk_alloc (blk_alloc HL3.out (.cells #[.slice A3 0 c3] 38)) (.cells #[.func (.func 145) #[] #[.pointer (some ⟨w2.heap.size, 0, none⟩), .pointer (some ⟨w.heap.size, 0, none⟩), .pointer (some ⟨w3.heap.size, 0, none⟩), .pointer (some ⟨w3.heap.size + 1, 0, none⟩)]] 121)
      have hS4 := Kd.S_alloc (Kd.S_alloc HO3.out (.cells #[.slice A3 0 c3] 38)) (.cells #[.func (.func 145) #[] #[.pointer (some ⟨w2.heap.size, 0, none⟩), .pointer (some ⟨w.heap.size, 0, none⟩), .pointer (some ⟨w3.heap.size, 0, none⟩), .pointer (some ⟨w3.heap.size + 1, 0, none⟩)]] 121)
      have hB4 := below_alloc (below_alloc HB3.out (.cells #[.slice A3 0 c3] 38)) (.cells #[.func (.func 145) #[] #[.pointer (some ⟨w2.heap.size, 0, none⟩), .pointer (some ⟨w.heap.size, 0, none⟩), .pointer (some ⟨w3.heap.size, 0, none⟩), .pointer (some ⟨w3.heap.size + 1, 0, none⟩)]] 121)
      generalize (w3.alloc (.cells #[.slice A3 0 c3] 38)).alloc (.cells #[.func (.func 145) #[] #[.pointer (some ⟨w2.heap.size, 0, none⟩), .pointer (some ⟨w.heap.size, 0, none⟩), .pointer (some ⟨w3.heap.size, 0, none⟩), .pointer (some ⟨w3.heap.size + 1, 0, none⟩)]] 121) = w4 at *
      obtain ⟨d, rfl⟩ := Int.eq_ofNat_of_zero_le HC2.out.1
      have HC3 := HC2.out
      simp only [Int.toNat_natCast] at HC3
      have hC := allPaying_1 k a0 d (by have := HC1.out; omega) ⟨by omega, HC3.2.1⟩ w2.heap.size w.heap.size w3.heap.size (w3.heap.size + 1) w.heap.size w HB3.out.size d A6 c6 [] 0 (.slice A3 0 c3) [] w6 (by simp) (by omega) (by omega) (fun l' hl => List.all_eq_true.1 HC3.2.2.1 l' hl) HC3.2.2.2 (blk_below hO4 hb6) ⟨blk_below hM4 hb6, blk_below hL4 hb6, blk_below hP4 hb6⟩ (below_step hB4 hb6) (Nat.le_trans hB4.size hb6.size) (Kd.S_mono (Kd.S_elder' hS4 (Kd.R_base ho6) hb6) (fun k hk => hk.2)) (Kd.R_lower ho6 hB4.size)
      have HC := Aside0.mk hC
      clear hO4 hP4 hM4 hL4 hS4 hB4 ho6 hb6 hC HC3
      go_wp2_with (go_at_call 145; refine HC.out.mono ?_; rintro e w7 ⟨rfl, v7, hO7, hX7, hS7, hK7, hT7, hB7⟩; have hcO7 : w7.cell? ⟨w3.heap.size, 0, none⟩ = some v7 := (blk_cell hO7 0).trans rfl; have HS7 := Aside0.mk hS7; have HB7 := Aside0.mk hB7; clear hO7 hX7 hS7 hK7 hT7 hB7)
      go_ret2
      exact ⟨_, rfl, HS7.out, HB7.out⟩
    · rw [if_neg c2] at h; cases h
  · rw [if_neg c] at h
    obtain ⟨rfl, rfl⟩ := Prod.mk.inj (Option.some.inj h)
    rw [decide_eq_false c] at hin
    have HIN := Aside0.mk hin
    clear h hin c
    go_enter Try.func105, Try.ntmps105
    go_wp2_with (go_at_call 93; refine (impl_within.calls a0 1 63 false _ HIN.out).mono ?_; rintro e w1 ⟨rfl, hd1⟩; have HB1 := Aside0.mk (below_step (below_alloc (Below.refl w.heap.size w) _) hd1.below); clear hd1)
    go_ret2
    exact ⟨_, rfl, Kd.S_nil _ _ _ _ _, HB1.out⟩


/-! ### impl_CountCuts: function 55 -/
def impl_CountCuts.f (k : Nat) (a0 : Int) : Option (Int × Bool) := (impl_allPaying.f k a0).bind fun bt190 => (some ((bt190.1.length : Int), bt190.2))
theorem impl_CountCuts.mono : ∀ a0 k, LeO (impl_CountCuts.f k a0) (impl_CountCuts.f (k + 1) a0) := by
  intro a0 k
  unfold impl_CountCuts.f
  repeat' first
      | (with_reducible exact impl_allPaying.mono _ _)
      | (with_reducible exact LeO.refl _)
      | (with_reducible exact LeO.none _)
      | (with_reducible refine LeO.ite ?_ ?_)
      | (with_reducible refine LeO.bind ?_ (fun _ => ?_))
      | exact impl_allPaying.mono _ _
      | exact LeO.none _
      | refine LeO.ite ?_ ?_
      | refine LeO.bind ?_ (fun _ => ?_)
set_option maxHeartbeats 8000000 in
set_option maxRecDepth 100000 in
theorem impl_CountCuts.calls (k : Nat) (a0 : Int) (r1 : Int) (r2 : Bool) (w : World) (h : impl_CountCuts.f k a0 = some (r1, r2)) :
    Calls Try.prog 55 #[.int .i64 a0] w fun e w' => e = .returned (.tuple #[.int .i64 r1, .bool r2]) ∧ Below w.heap.size w w' := by
  have HB := Aside0.mk (Below.refl w.heap.size w)
  have H : ((impl_allPaying.f k a0).bind fun bt190 => (some ((bt190.1.length : Int), bt190.2))) = some (r1, r2) := h
  clear h
  replace H := Option.bind_eq_some_iff.mp H
  obtain ⟨⟨t190, t191⟩, A20, H⟩ := H
  replace H : (some ((t190.length : Int), t191)) = some (r1, r2) := H
  have A2 := Aside0.mk A20
  clear A20
  simp only [Option.some.injEq, Prod.mk.injEq] at H
  obtain ⟨rfl, rfl⟩ := H
  go_enter Try.func55, Try.ntmps55
  go_wp2_with (first | ((with_reducible refine gate_callee (f := 105) rfl ?_); refine goesL_ (some 8) rfl rfl Try.func105 (by kernel_rfl) rfl #[.int .i64 a0] rfl (by (try simp only [List.map_toArray, List.map_cons, List.map_nil]); first | done | rfl | (simp only [List.length_drop, List.length_take]; rfl)) ?_; (with_reducible refine (impl_allPaying.calls k a0 t190 t191 _ A2.out).mono ?_); rintro e w3 ⟨v192, rfl, ho0, hb⟩; refine ⟨_, rfl, ?_⟩; have n0_ := Aside0.mk (Kd.S_lower ho0 (below_size (by repeat (first | (with_reducible first | exact HB.out | apply below_alloc | apply pw_below_drewN | apply below_drew1) | exact HB.out)))); have n1_ := Aside0.mk (below_step (by repeat (first | (with_reducible first | exact HB.out | apply below_alloc | apply pw_below_drewN | apply below_drew1) | exact HB.out)) hb); clear HB; have HO193 := n0_; have HB := n1_; clear n0_ n1_; (try clear hb); (try clear hb2); (try clear hk); (try clear hi); (try clear ho0); obtain ⟨Ao4, co4, eo4⟩ := Kd.S_slice HO193.out; subst eo4))
  go_ret2
  exact ⟨by first | rfl | (simp [errW_none, errW_some] <;> rfl) | (simp [*, errW_none, errW_some] <;> rfl), by repeat (first | (with_reducible first | exact HB.out | apply below_alloc | apply pw_below_drewN | apply below_drew1) | exact HB.out)⟩

/-! ### laws_FnExactCountCuts: function 14 -/
def laws_FnExactCountCuts.f (k : Nat) (a0 : Int) : Option (Bool) := (spec_CountCuts.f k a0).bind fun bt194 => ((impl_CountCuts.f k a0).bind fun bt196 => (if bt196.1 = bt194.1 then (if (bt196.2 != bt194.2) = true then (none) else (some true)) else (none)))
theorem laws_FnExactCountCuts.mono : ∀ a0 k, LeO (laws_FnExactCountCuts.f k a0) (laws_FnExactCountCuts.f (k + 1) a0) := by
  intro a0 k
  unfold laws_FnExactCountCuts.f
  repeat' first
      | (with_reducible exact impl_CountCuts.mono _ _)
      | (with_reducible exact spec_CountCuts.mono _ _)
      | (with_reducible exact LeO.refl _)
      | (with_reducible exact LeO.none _)
      | (with_reducible refine LeO.ite ?_ ?_)
      | (with_reducible refine LeO.bind ?_ (fun _ => ?_))
      | exact impl_CountCuts.mono _ _
      | exact spec_CountCuts.mono _ _
      | exact LeO.none _
      | refine LeO.ite ?_ ?_
      | refine LeO.bind ?_ (fun _ => ?_)
set_option maxHeartbeats 8000000 in
set_option maxRecDepth 100000 in
theorem laws_FnExactCountCuts.calls (k : Nat) (a0 : Int) (r : Bool) (w : World) (h : laws_FnExactCountCuts.f k a0 = some r) :
    Calls Try.prog 14 #[.int .i64 a0] w fun e w' => e = .returned (.bool r) ∧ Below w.heap.size w w' := by
  have HB := Aside0.mk (Below.refl w.heap.size w)
  have H : ((spec_CountCuts.f k a0).bind fun bt194 => ((impl_CountCuts.f k a0).bind fun bt196 => (if bt196.1 = bt194.1 then (if (bt196.2 != bt194.2) = true then (none) else (some true)) else (none)))) = some r := h
  clear h
  replace H := Option.bind_eq_some_iff.mp H
  obtain ⟨⟨t194, t195⟩, A20, H⟩ := H
  replace H : ((impl_CountCuts.f k a0).bind fun bt196 => (if bt196.1 = t194 then (if (bt196.2 != t195) = true then (none) else (some true)) else (none))) = some r := H
  have A2 := Aside0.mk A20
  clear A20
  replace H := Option.bind_eq_some_iff.mp H
  obtain ⟨⟨t196, t197⟩, A30, H⟩ := H
  replace H : (if t196 = t194 then (if (t197 != t195) = true then (none) else (some true)) else (none)) = some r := H
  have A3 := Aside0.mk A30
  clear A30
  by_cases c4 : t196 = t194
  · rw [if_pos c4] at H
    have c4b0 : (t196 == t194) = true := beq_iff_eq.mpr c4
    have c4b1 : (t196 != t194) = false := bne_eq_false_iff_eq.mpr c4
    clear c4
    by_cases c5 : (t197 != t195) = true
    · rw [if_pos c5] at H
      exact absurd H (by simp)
    · rw [if_neg c5] at H
      have c5b0 : (t197 != t195) = false := by simpa using c5
      (try (have c5b1 : decide (t197 = t195) = true := by simpa using c5))
      (try (have c5b2 : (t197 == t195) = true := by simpa using c5))
      clear c5
      obtain rfl := Option.some.inj H
      go_enter Try.func14, Try.ntmps14
      go_wp2_with (first | ((with_reducible refine gate_callee (f := 54) rfl ?_); refine goesL_ (some 9) rfl rfl Try.func54 (by kernel_rfl) rfl #[.int .i64 a0] rfl (by (try simp only [List.map_toArray, List.map_cons, List.map_nil]); first | done | rfl | (simp only [List.length_drop, List.length_take]; rfl)) ?_; (with_reducible refine (spec_CountCuts.calls k a0 t194 t195 _ A2.out).mono ?_); rintro e w6 ⟨rfl, hb⟩; refine ⟨_, rfl, ?_⟩; have n0_ := Aside0.mk (below_step (by repeat (first | (with_reducible first | exact HB.out | apply below_alloc | apply pw_below_drewN | apply below_drew1) | exact HB.out)) hb); clear HB; have HB := n0_; clear n0_; (try clear hb); (try clear hb2); (try clear hk); (try clear hi)) | ((with_reducible refine gate_callee (f := 55) rfl ?_); refine goesL_ (some 14) rfl rfl Try.func55 (by kernel_rfl) rfl #[.int .i64 a0] rfl (by (try simp only [List.map_toArray, List.map_cons, List.map_nil]); first | done | rfl | (simp only [List.length_drop, List.length_take]; rfl)) ?_; (with_reducible refine (impl_CountCuts.calls k a0 t196 t197 _ A3.out).mono ?_); rintro e w7 ⟨rfl, hb⟩; refine ⟨_, rfl, ?_⟩; have n0_ := Aside0.mk (below_step (by repeat (first | (with_reducible first | exact HB.out | apply below_alloc | apply pw_below_drewN | apply below_drew1) | exact HB.out)) hb); clear HB; have HB := n0_; clear n0_; (try clear hb); (try clear hb2); (try clear hk); (try clear hi)))
      go_ret
      exact ⟨by first | rfl | (simp [errW_none, errW_some] <;> rfl) | (simp [*, errW_none, errW_some] <;> rfl), by repeat (first | (with_reducible first | exact HB.out | apply below_alloc | apply pw_below_drewN | apply below_drew1) | exact HB.out)⟩
  · rw [if_neg c4] at H
    exact absurd H (by simp)

/-- THE ONE PURE STATEMENT of laws_FnExactCountCuts: yours. -/
def laws_FnExactCountCuts.Pure : Prop := ∀ (a0 : Int), (Lit.int .i64 a0).wf = true → ∃ k, laws_FnExactCountCuts.f k a0 = some true
theorem laws_FnExactCountCuts.walk (P : laws_FnExactCountCuts.Pure) (a0 : Int) (w : World) (w0 : (Lit.int .i64 a0).wf = true) :
    Calls Try.prog 14 #[.int .i64 a0] w fun e w' => e = .returned (.bool true) ∧ Below w.heap.size w w' := by
  obtain ⟨k, h⟩ := P a0 w0
  refine (laws_FnExactCountCuts.calls k a0 true w h).mono ?_
  rintro e w' ⟨rfl, hd⟩
  exact ⟨rfl, hd⟩

end Go.Proofs.Ytfiikhdkohgmfaa.PFnExactCountCuts
