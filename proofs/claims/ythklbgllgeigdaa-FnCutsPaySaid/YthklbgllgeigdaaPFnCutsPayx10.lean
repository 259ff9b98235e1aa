-- MADE FOR THIS CLAIM by wip/xp/xprint.py (with the kit's print; some functions' contracts proved by hand)
import Derived.Test.YthklbgllgeigdaaLw
import Derived.Test.YthklbgllgeigdaaPFnCutsPayx0
import Derived.Test.YthklbgllgeigdaaPFnCutsPayx1
import Derived.Test.YthklbgllgeigdaaPFnCutsPayx2
import Derived.Test.YthklbgllgeigdaaPFnCutsPayx3
import Derived.Test.YthklbgllgeigdaaPFnCutsPayx6
import Derived.Test.YthklbgllgeigdaaPFnCutsPayx7
import Derived.Test.YthklbgllgeigdaaPFnCutsPayx8
import Derived.Test.YthklbgllgeigdaaPFnCutsPayx9
namespace Go.Proofs.Ythklbgllgeigdaa.PFnCutsPay
open Go.RowKit Go.Proofs.YthklbgllgeigdaaW.PrintWords Go.Proofs.YthklbgllgeigdaaW.PrintLast Go.Proofs.YthklbgllgeigdaaW.PrintMore
attribute [local go_sem] max2_int min2_int max_two min_two max_three min_three max_four min_four   -- for this text's walks alone
set_option linter.unusedVariables false
set_option linter.unusedSimpArgs false

/-! ### laws_FnCutsPay: function 8 -/
section
open Go.Proofs.Ythklbgllgeigdaa.Lw
set_option maxRecDepth 100000
@[reducible] noncomputable def laws_FnCutsPay.B : Code := Try.f8.body.getD .skip
@[reducible] def laws_FnCutsPay.Q0 (ws : World) (r : Bool) : Exit → Act → World → Prop := bodyPost Try.prog Try.f8 (fun e w' => e = .returned (.bool r) ∧ Below ws.heap.size ws w')
theorem laws_FnCutsPay.u4 : Try.prog.underlying 4 = some (.bool) := by kernel_rfl
theorem laws_FnCutsPay.u24 : Try.prog.underlying 24 = some (.slice (Try.prog.elem 24)) := by kernel_rfl
theorem laws_FnCutsPay.z24 : (Try.prog.info? (Try.prog.elem 24)).map (·.size) = some 1 := by kernel_rfl
theorem laws_FnCutsPay.y24 : (Try.prog.info? (Try.prog.elem 24)).map (fun i => (i.zero, i.size, i.bytes)) = some (some (.int .i64 0), 1, 8) := by kernel_rfl
theorem laws_FnCutsPay.x24 : (Try.prog.info? (Try.prog.elem 24)).map (fun i => (i.zero, i.size)) = some (some (.int .i64 0), 1) := by kernel_rfl
@[reducible] def laws_FnCutsPay.Q1 (ws : World) (r : Bool) : Exit → Act → World → Prop := Exit.then (Code.wp Try.prog (srn 23 laws_FnCutsPay.B) (laws_FnCutsPay.Q0 ws r)) (laws_FnCutsPay.Q0 ws r)
@[reducible] def laws_FnCutsPay.Q2 (ws : World) (r : Bool) : Exit → Act → World → Prop := Exit.then (Code.wp Try.prog (srn 1 (ct (srn 1 (sl (srn 22 laws_FnCutsPay.B))))) (laws_FnCutsPay.Q1 ws r)) (laws_FnCutsPay.Q1 ws r)
@[reducible] def laws_FnCutsPay.Q3 (ws : World) (r : Bool) : Exit → Act → World → Prop := Exit.inBlock 0 (laws_FnCutsPay.Q2 ws r)
@[reducible] def laws_FnCutsPay.Q4 (ws : World) (r : Bool) : Exit → Act → World → Prop := Exit.then (fun a' w' => AtHead Try.prog (lb (bl (srn 1 (sl (ct (srn 1 (sl (srn 22 laws_FnCutsPay.B)))))))) (laws_FnCutsPay.Q3 ws r) a' w') (laws_FnCutsPay.Q3 ws r)
def laws_FnCutsPay.p104 (k : Nat) (L88 : Int → List Int → List Int → Int → Int → Option Bool) (a39 : Int) (l40 : List Int) (l41 : List Int) (a383 : Int) (a384 : Int) : Option Bool := L88 a39 l40 l41 a383 (wrap64 (a384 + 1))
theorem laws_FnCutsPay.w104 (k : Nat) (r : Bool) (ws : World) (L88 : Int → List Int → List Int → Int → Int → Option Bool) (ih88 : ∀ (f0 : Nat → Value) (w0 : World) (a39 : Int) (h39 : f0 39 = .int .i64 a39) (A40 : Option Addr) (k40 : Nat) (l40 : List Int) (h40 : f0 40 = .slice A40 l40.length k40) (q40 : l40.length ≤ k40) (C40 : On w0 fun x => Kd.C (Kd.int .i64) x A40 l40.length l40) (A41 : Option Addr) (k41 : Nat) (l41 : List Int) (h41 : f0 41 = .slice A41 l41.length k41) (q41 : l41.length ≤ k41) (C41 : On w0 fun x => Kd.C (Kd.int .i64) x A41 l41.length l41) (a383 : Int) (h383 : f0 383 = .int .i64 a383) (a384 : Int) (h384 : f0 384 = .int .i64 a384) (B0 : Below ws.heap.size ws w0) (h : L88 a39 l40 l41 a383 a384 = some r), AtHead Try.prog (lb (bl (srn 1 (sl (ct (srn 1 (sl (srn 22 laws_FnCutsPay.B)))))))) (laws_FnCutsPay.Q3 ws r) (fr 415 f0) w0) (f0 : Nat → Value) (w0 : World) (a39 : Int) (h39 : f0 39 = .int .i64 a39) (A40 : Option Addr) (k40 : Nat) (l40 : List Int) (h40 : f0 40 = .slice A40 l40.length k40) (q40 : l40.length ≤ k40) (C40 : On w0 fun x => Kd.C (Kd.int .i64) x A40 l40.length l40) (A41 : Option Addr) (k41 : Nat) (l41 : List Int) (h41 : f0 41 = .slice A41 l41.length k41) (q41 : l41.length ≤ k41) (C41 : On w0 fun x => Kd.C (Kd.int .i64) x A41 l41.length l41) (a383 : Int) (h383 : f0 383 = .int .i64 a383) (a384 : Int) (h384 : f0 384 = .int .i64 a384) (B0 : Below ws.heap.size ws w0) (h : laws_FnCutsPay.p104 k L88 a39 l40 l41 a383 a384 = some r) : Code.wp Try.prog (srn 3 (lb (bl (srn 1 (sl (ct (srn 1 (sl (srn 22 laws_FnCutsPay.B))))))))) (laws_FnCutsPay.Q4 ws r) (fr 415 f0) w0 := by
  unfold laws_FnCutsPay.p104 at h
  refine wp_region_lit ?_
  refine bi_ (v := .int .i64 (wrap64 (a384 + 1))) rfl rfl rfl rfl (go0 rfl) h384 rfl (i_add rfl) ?_
  refine m0 (.int .i64 (wrap64 (a384 + 1))) rfl rfl rfl rfl rfl ?_
  refine nilt ?_
  exact ih88 _ _ a39 h39 A40 k40 l40 h40 q40 C40 A41 k41 l41 h41 q41 C41 a383 h383 (wrap64 (a384 + 1)) rfl B0 h
def laws_FnCutsPay.p105 (k : Nat) (l41 : List Int) : Option Bool := (laws_jRises.f k l41).bind fun r106_0 => some r106_0
theorem laws_FnCutsPay.w105 (k : Nat) (r : Bool) (ws : World) (f0 : Nat → Value) (w0 : World) (A41 : Option Addr) (k41 : Nat) (l41 : List Int) (h41 : f0 41 = .slice A41 l41.length k41) (q41 : l41.length ≤ k41) (C41 : On w0 fun x => Kd.C (Kd.int .i64) x A41 l41.length l41) (B0 : Below ws.heap.size ws w0) (h : laws_FnCutsPay.p105 k l41 = some r) : Code.wp Try.prog (srn 1 (ct (srn 1 (sl (srn 22 laws_FnCutsPay.B))))) (laws_FnCutsPay.Q1 ws r) (fr 415 f0) w0 := by
  unfold laws_FnCutsPay.p105 at h
  refine wp_seq ?_
  refine wp_region_lit ?_
  refine m0 (.slice A41 l41.length k41) rfl rfl rfl rfl h41 ?_
  obtain ⟨r106_0, e106, h⟩ := bind_ h
  refine cl_ Try.func142 (by kernel_rfl) rfl rfl rfl rfl (go0 rfl) (argc (v := .slice A41 l41.length k41) rfl argn) ?_
  refine (laws_jRises.calls k A41 k41 l41 _ _ (C41 _ (Below.refl _ _)) q41 e106).mono ?_
  rintro e w106 ⟨rfl, d106⟩
  have bb106 := Drawn0.below d106
  refine ⟨_, rfl, ?_⟩
  refine a0 (.bool r106_0) rfl rfl rfl rfl rfl ?_
  refine nilt ?_
  refine wp_ret ?_
  refine then_r ?_
  exact leave rfl rfl rfl ⟨rb (Option.some.inj h), (below_step B0 bb106)⟩
def laws_FnCutsPay.l88 (k : Nat) : Nat → Int → List Int → List Int → Int → Int → Option Bool
  | 0, _, _, _, _, _ => none
  | n + 1, a39, l40, l41, a383, a384 => if (decide (a384 < a383)) = true then (if (decide (0 ≤ a384) && decide (a384 ≤ (l40.length : Int))) = true then (if (decide (0 ≤ (wrap64 (a384 + 1))) && decide ((wrap64 (a384 + 1)) ≤ (l40.length : Int))) = true then (if (decide (([] : List Int).length + (l40.take (Int.toNat a384)).length < 17592186044416)) = true then (if (decide ((([] : List Int) ++ (l40.take (Int.toNat a384))).length + (l40.drop (Int.toNat (wrap64 (a384 + 1)))).length < 17592186044416)) = true then ((impl_DoCutsPay.f k a39 ((([] : List Int) ++ (l40.take (Int.toNat a384))) ++ (l40.drop (Int.toNat (wrap64 (a384 + 1)))))).bind fun t100 => if t100.2 = true then ((laws_jHas.f k l41 a384).bind fun r102_0 => if (t100.1 != r102_0) = true then none else laws_FnCutsPay.p104 k (laws_FnCutsPay.l88 k n) a39 l40 l41 a383 a384) else none) else none) else none) else none) else none) else (laws_FnCutsPay.p105 k l41)
theorem laws_FnCutsPay.w88 (k : Nat) (r : Bool) (ws : World) : ∀ (n : Nat), ∀ (f0 : Nat → Value) (w0 : World) (a39 : Int) (h39 : f0 39 = .int .i64 a39) (A40 : Option Addr) (k40 : Nat) (l40 : List Int) (h40 : f0 40 = .slice A40 l40.length k40) (q40 : l40.length ≤ k40) (C40 : On w0 fun x => Kd.C (Kd.int .i64) x A40 l40.length l40) (A41 : Option Addr) (k41 : Nat) (l41 : List Int) (h41 : f0 41 = .slice A41 l41.length k41) (q41 : l41.length ≤ k41) (C41 : On w0 fun x => Kd.C (Kd.int .i64) x A41 l41.length l41) (a383 : Int) (h383 : f0 383 = .int .i64 a383) (a384 : Int) (h384 : f0 384 = .int .i64 a384) (B0 : Below ws.heap.size ws w0) (h : laws_FnCutsPay.l88 k n a39 l40 l41 a383 a384 = some r), AtHead Try.prog (lb (bl (srn 1 (sl (ct (srn 1 (sl (srn 22 laws_FnCutsPay.B)))))))) (laws_FnCutsPay.Q3 ws r) (fr 415 f0) w0 := by
  intro n
  induction n with
  | zero => intro f0 w0 a39 h39 A40 k40 l40 h40 q40 C40 A41 k41 l41 h41 q41 C41 a383 h383 a384 h384 B0 h; rw [laws_FnCutsPay.l88] at h; cases h
  | succ n ih88 =>
    intro f0 w0 a39 h39 A40 k40 l40 h40 q40 C40 A41 k41 l41 h41 q41 C41 a383 h383 a384 h384 B0 h
    rw [laws_FnCutsPay.l88] at h
    refine head_round ?_
    refine wp_seq ?_
    refine wp_region_lit ?_
    refine bi_ (v := .bool (decide (a384 < a383))) rfl rfl rfl rfl (go0 rfl) h384 h383 (i_lss rfl) ?_
    refine nilt ?_
    refine wp_seq ?_
    rcases ifs h with ⟨c89, h⟩ | ⟨c89, h⟩
    · refine cT ?_ (Eq.trans rfl (vb c89)) rfl
      refine wp_skip ?_
      refine then_n ?_
      refine wp_seq ?_
      refine wp_block ?_
      refine wp_seq ?_
      refine wp_region_lit ?_
      refine m0 (.int .i64 a384) rfl rfl rfl rfl h384 ?_
      refine a0 (.int .i64 a384) rfl rfl rfl rfl rfl ?_
      refine nilt ?_
      refine wp_seq ?_
      refine startL (m := 11) #[false, false, false, false, false, false, false, false, false, false, false] (by kernel_rfl) rfl rfl ?_
      intro w90 bb90
      refine pu (v := .slice A40 l40.length k40) (i := 1) #[false, true, false, false, false, false, false, false, false, false, false] rfl rfl (by kernel_rfl) (go0 rfl) (run_mv rfl rfl h40) (fun _ _ _ h => h) ?_
      refine pu (v := .int .i64 a384) (i := 2) #[false, true, true, false, false, false, false, false, false, false, false] rfl rfl (by kernel_rfl) (go0 rfl) (run_mv rfl rfl rfl) (fun _ _ _ h => h) ?_
      obtain ⟨c91, h⟩ := ify h
      replace c91 := bnd1 c91
      have Ct92 := on_take (Int.toNat a384) (On.adv C40 bb90) (bnd2 c91)
      refine pu (v := .slice A40 (l40.take (Int.toNat a384)).length k40) (i := 3) #[false, true, true, true, false, false, false, false, false, false, false] rfl rfl (by kernel_rfl) (go0 rfl) (run_hi (l := l40) (q := a384) laws_FnCutsPay.u24 laws_FnCutsPay.z24 rfl rfl rfl rfl rfl q40 c91) (fun _ _ _ h => h) ?_
      refine pu (v := .slice A40 l40.length k40) (i := 5) #[false, true, true, true, false, true, false, false, false, false, false] rfl rfl (by kernel_rfl) (go0 rfl) (run_mv rfl rfl h40) (fun _ _ _ h => h) ?_
      refine pu (v := .int .i64 a384) (i := 6) #[false, true, true, true, false, true, true, false, false, false, false] rfl rfl (by kernel_rfl) (go0 rfl) (run_mv rfl rfl rfl) (fun _ _ _ h => h) ?_
      refine pu (v := .int .i64 (wrap64 (a384 + 1))) (i := 7) #[false, true, true, true, false, true, true, true, false, false, false] rfl rfl (by kernel_rfl) (go0 rfl) (run_bi rfl rfl rfl rfl rfl (fun _ => i_add rfl)) (fun _ _ _ h => h) ?_
      obtain ⟨c93, h⟩ := ify h
      replace c93 := bnd1 c93
      have Ct94 := on_drop (Int.toNat (wrap64 (a384 + 1))) k40 (On.adv C40 bb90) (bnd2 c93) q40
      refine pu (v := .slice (if k40 = (Int.toNat (wrap64 (a384 + 1))) then A40 else (A40).map (·.add ((Int.toNat (wrap64 (a384 + 1))) * 1))) (l40.drop (Int.toNat (wrap64 (a384 + 1)))).length (k40 - (Int.toNat (wrap64 (a384 + 1))))) (i := 8) #[false, true, true, true, false, true, true, true, true, false, false] rfl rfl (by kernel_rfl) (go0 rfl) (run_lo (l := l40) (q := (wrap64 (a384 + 1))) laws_FnCutsPay.u24 laws_FnCutsPay.z24 rfl rfl rfl rfl rfl c93) (fun _ _ _ h => h) ?_
      refine bu1 (i := 0) #[true, true, true, true, false, true, true, true, true, false, false] rfl rfl (by kernel_rfl) (by simp) (go0 rfl) (fun _ => trivial) laws_FnCutsPay.u24 rfl laws_FnCutsPay.x24 rfl ?_
      intro Ag95 kg95 w95 Og95 Cg95 bb95
      obtain ⟨c96, h⟩ := ify h
      replace c96 := of_decide_eq_true c96
      refine ap1 (v := .slice Ag95 ([] : List Int).length kg95) (xs := ([] : List Int)) (ys := (l40.take (Int.toNat a384))) (i := 4) #[true, true, true, true, true, true, true, true, true, false, false] rfl rfl (by kernel_rfl) (by simp) (go0 rfl) (fun _ => trivial) laws_FnCutsPay.u24 laws_FnCutsPay.y24 rfl rfl rfl rfl rfl Og95 (On.adv Ct92 bb95) bb95 c96 ?_
      intro Ag97 kg97 w97 qg97 Og97 Cg97 bb97
      obtain ⟨c98, h⟩ := ify h
      replace c98 := of_decide_eq_true c98
      refine ap1 (v := .slice Ag97 (([] : List Int) ++ (l40.take (Int.toNat a384))).length kg97) (xs := (([] : List Int) ++ (l40.take (Int.toNat a384)))) (ys := (l40.drop (Int.toNat (wrap64 (a384 + 1))))) (i := 9) #[true, true, true, true, true, true, true, true, true, true, false] rfl rfl (by kernel_rfl) (by simp) (go0 rfl) (fun _ => trivial) laws_FnCutsPay.u24 laws_FnCutsPay.y24 rfl rfl rfl rfl rfl Og97 (On.adv Ct94 bb97) bb97 c98 ?_
      intro Ag99 kg99 w99 qg99 Og99 Cg99 bb99
      refine pu (v := .slice Ag99 ((([] : List Int) ++ (l40.take (Int.toNat a384))) ++ (l40.drop (Int.toNat (wrap64 (a384 + 1))))).length kg99) (i := 10) #[true, true, true, true, true, true, true, true, true, true, true] rfl rfl (by kernel_rfl) (go0 rfl) (run_as rfl rfl rfl) (fun _ _ _ h => h) ?_
      refine done_ (by kernel_rfl) ?_
      refine then_n ?_
      refine wp_seq ?_
      refine wp_region_lit ?_
      refine m0 (.int .i64 a39) rfl rfl rfl rfl h39 ?_
      refine m0 (.slice Ag99 ((([] : List Int) ++ (l40.take (Int.toNat a384))) ++ (l40.drop (Int.toNat (wrap64 (a384 + 1))))).length kg99) rfl rfl rfl rfl rfl ?_
      obtain ⟨⟨r100_1, r100_2⟩, e100, h⟩ := bind_ h
      refine cl_ Try.func120 (by kernel_rfl) rfl rfl rfl rfl (go0 rfl) (argc (v := .int .i64 a39) rfl (argc (v := .slice Ag99 ((([] : List Int) ++ (l40.take (Int.toNat a384))) ++ (l40.drop (Int.toNat (wrap64 (a384 + 1))))).length kg99) rfl argn)) ?_
      refine (impl_DoCutsPay.calls k a39 Ag99 kg99 ((([] : List Int) ++ (l40.take (Int.toNat a384))) ++ (l40.drop (Int.toNat (wrap64 (a384 + 1))))) _ _ _ (Cg99 _ (Below.refl _ _)) (app_le qg99) e100).mono ?_
      rintro e w100 ⟨rfl, bb100⟩
      refine ⟨_, rfl, ?_⟩
      refine m0 (.tuple #[.bool r100_1, .bool r100_2]) rfl rfl rfl rfl rfl ?_
      refine x0 (.bool r100_1) rfl rfl rfl rfl rfl rfl ?_
      refine x0 (.bool r100_2) rfl rfl rfl rfl rfl rfl ?_
      refine a0 (.bool r100_1) rfl rfl rfl rfl rfl ?_
      refine a0 (.bool r100_2) rfl rfl rfl rfl rfl ?_
      refine nilt ?_
      refine wp_seq ?_
      refine wp_region_lit ?_
      obtain ⟨c101, h⟩ := ify h
      refine m0 (.bool true) rfl rfl rfl rfl (Eq.trans rfl (vb c101)) ?_
      refine nt_ (c := false) rfl rfl rfl (go0 rfl) rfl rfl ?_
      refine m0 (.bool false) rfl rfl rfl rfl rfl ?_
      refine mv_ (v := .bool r100_1) rfl rfl rfl (go1 (j := 2) (t := 405) rfl (by kernel_rfl) rfl rfl) rfl ?_
      refine mv_ (v := .slice A41 l41.length k41) rfl rfl rfl (go1 (j := 2) (t := 405) rfl (by kernel_rfl) rfl rfl) h41 ?_
      refine mv_ (v := .int .i64 a384) rfl rfl rfl (go1 (j := 2) (t := 405) rfl (by kernel_rfl) rfl rfl) rfl ?_
      obtain ⟨r102_0, e102, h⟩ := bind_ h
      refine cl_ Try.func141 (by kernel_rfl) rfl rfl rfl rfl (go1 (j := 2) (t := 405) rfl (by kernel_rfl) rfl rfl) (argc (v := .slice A41 l41.length k41) rfl (argc (v := .int .i64 a384) rfl argn)) ?_
      refine (laws_jHas.calls k A41 k41 l41 a384 _ _ (C41 _ (below_step (below_step bb90 bb99) bb100)) q41 e102).mono ?_
      rintro e w102 ⟨rfl, d102⟩
      have bb102 := Drawn0.below d102
      refine ⟨_, rfl, ?_⟩
      obtain ⟨c103, h⟩ := ifn h
      refine bb_ (v := .bool (false)) rfl rfl rfl rfl (go1 (j := 2) (t := 405) rfl (by kernel_rfl) rfl rfl) rfl rfl (b_neq laws_FnCutsPay.u4 c103) ?_
      refine pk_ (b := false) (v := .bool false) rfl rfl rfl rfl rfl (go0 rfl) rfl rfl ?_
      refine nilt ?_
      refine cF ?_ rfl rfl
      refine wp_skip ?_
      refine blk_n ?_
      refine then_n ?_
      exact laws_FnCutsPay.w104 k r ws (laws_FnCutsPay.l88 k n) ih88 _ _ a39 h39 A40 k40 l40 h40 q40 (On.adv C40 (below_step (below_step (below_step bb90 bb99) bb100) bb102)) A41 k41 l41 h41 q41 (On.adv C41 (below_step (below_step (below_step bb90 bb99) bb100) bb102)) a383 h383 a384 h384 (below_step B0 (below_step (below_step (below_step bb90 bb99) bb100) bb102)) h
    · refine cF ?_ (Eq.trans rfl (vb c89)) rfl
      refine wp_exit ?_
      refine then_x ?_
      refine then_x ?_
      refine blk_x ?_
      refine then_n ?_
      exact laws_FnCutsPay.w105 k r ws _ _ A41 k41 l41 h41 q41 C41 B0 h
def laws_FnCutsPay.p86 (k : Nat) (a39 : Int) (l40 : List Int) (l41 : List Int) (b42 : Bool) : Option Bool := if b42 = true then (laws_FnCutsPay.l88 k k a39 l40 l41 (l40.length : Int) 0) else (some true)
theorem laws_FnCutsPay.w86 (k : Nat) (r : Bool) (ws : World) (f0 : Nat → Value) (w0 : World) (a39 : Int) (h39 : f0 39 = .int .i64 a39) (A40 : Option Addr) (k40 : Nat) (l40 : List Int) (h40 : f0 40 = .slice A40 l40.length k40) (q40 : l40.length ≤ k40) (C40 : On w0 fun x => Kd.C (Kd.int .i64) x A40 l40.length l40) (A41 : Option Addr) (k41 : Nat) (l41 : List Int) (h41 : f0 41 = .slice A41 l41.length k41) (q41 : l41.length ≤ k41) (C41 : On w0 fun x => Kd.C (Kd.int .i64) x A41 l41.length l41) (b42 : Bool) (h42 : f0 42 = .bool b42) (B0 : Below ws.heap.size ws w0) (h : laws_FnCutsPay.p86 k a39 l40 l41 b42 = some r) : Code.wp Try.prog (srn 22 laws_FnCutsPay.B) (laws_FnCutsPay.Q0 ws r) (fr 415 f0) w0 := by
  unfold laws_FnCutsPay.p86 at h
  refine wp_seq ?_
  refine wp_seq ?_
  refine wp_region_lit ?_
  refine m0 (.bool b42) rfl rfl rfl rfl h42 ?_
  refine nilt ?_
  rcases ifs h with ⟨c87, h⟩ | ⟨c87, h⟩
  · refine cT ?_ (Eq.trans rfl (vb c87)) rfl
    refine wp_seq ?_
    refine wp_seq ?_
    refine wp_region_lit ?_
    refine m0 (.slice A40 l40.length k40) rfl rfl rfl rfl h40 ?_
    refine ln_ laws_FnCutsPay.u24 rfl rfl rfl (go0 rfl) rfl ?_
    refine m0 (.int .i64 0) rfl rfl rfl rfl rfl ?_
    refine nilt ?_
    refine wp_block ?_
    exact head_loop (laws_FnCutsPay.w88 k r ws k _ _ a39 h39 A40 k40 l40 h40 q40 C40 A41 k41 l41 h41 q41 C41 (l40.length : Int) rfl 0 rfl B0 h)
  · refine cF ?_ (Eq.trans rfl (vb c87)) rfl
    refine wp_skip ?_
    refine then_n ?_
    refine wp_seq ?_
    refine wp_region_lit ?_
    refine a0 (.bool true) rfl rfl rfl rfl rfl ?_
    refine nilt ?_
    refine wp_ret ?_
    exact leave rfl rfl rfl ⟨rb (Option.some.inj h), B0⟩
def laws_FnCutsPay.p71 (k : Nat) (l1 : List Int) (a5 : Int) (l6 : List Int) (l27 : List Int) (b28 : Bool) : Option Bool := (if b28 = true then ((laws_jSum.f k l27).bind fun r74_0 => (if (r74_0 != a5) = true then (some true) else (some (decide ((wrap64 (2 * (l6.length : Int))) < (l27.length : Int))))).bind fun d75 => (if d75 = true then (some true) else ((laws_jCount.f k l27 1).bind fun r79_0 => some (decide (r79_0 < (l6.length : Int))))).bind fun d77 => some d77) else (some false)).bind fun d72 => if d72 = true then none else (spec_DrawNeedlessCuts.f k l1).bind fun t80 => (impl_NeedlessCuts.f k t80.1 t80.2).bind fun t81 => (spec_NeedlessCuts.f k t80.1 t80.2).bind fun t82 => if (t81.2 != t82.2) = true then none else (laws_jSame.f k t81.1 t82.1).bind fun r84_0 => if (!r84_0) = true then none else laws_FnCutsPay.p86 k t80.1 t80.2 t81.1 t81.2
theorem laws_FnCutsPay.w71 (k : Nat) (r : Bool) (ws : World) (f0 : Nat → Value) (w0 : World) (A1 : Option Addr) (k1 : Nat) (l1 : List Int) (h1 : f0 1 = .slice A1 l1.length k1) (q1 : l1.length ≤ k1) (C1 : On w0 fun x => Kd.C (Kd.int .u8) x A1 l1.length l1) (a5 : Int) (h5 : f0 5 = .int .i64 a5) (A6 : Option Addr) (k6 : Nat) (l6 : List Int) (h6 : f0 6 = .slice A6 l6.length k6) (q6 : l6.length ≤ k6) (C6 : On w0 fun x => Kd.C (Kd.int .i64) x A6 l6.length l6) (A27 : Option Addr) (k27 : Nat) (l27 : List Int) (h27 : f0 27 = .slice A27 l27.length k27) (q27 : l27.length ≤ k27) (C27 : On w0 fun x => Kd.C (Kd.int .i64) x A27 l27.length l27) (b28 : Bool) (h28 : f0 28 = .bool b28) (B0 : Below ws.heap.size ws w0) (h : laws_FnCutsPay.p71 k l1 a5 l6 l27 b28 = some r) : Code.wp Try.prog (srn 17 laws_FnCutsPay.B) (laws_FnCutsPay.Q0 ws r) (fr 415 f0) w0 := by
  unfold laws_FnCutsPay.p71 at h
  refine wp_seq ?_
  refine wp_seq ?_
  refine wp_region_lit ?_
  refine m0 (.bool b28) rfl rfl rfl rfl h28 ?_
  refine m0 (.bool b28) rfl rfl rfl rfl rfl ?_
  obtain ⟨d72, e72, h⟩ := bind_ h
  obtain ⟨y72, h⟩ := ifn h
  subst y72
  refine cut_ 20 (fun f g w' => Same 49 f g ∧ g 354 = .bool false ∧ Below w0.heap.size w0 w') ?_ ?_
  · clear h; have h := e72; clear e72
    rcases ifs h with ⟨c73, h⟩ | ⟨c73, h⟩
    · refine mv_ (v := .slice A27 l27.length k27) rfl rfl rfl (go1 (j := 1) (t := 334) rfl (by kernel_rfl) rfl (Eq.trans rfl (vb c73))) h27 ?_
      obtain ⟨r74_0, e74, h⟩ := bind_ h
      refine cl_ Try.func135 (by kernel_rfl) rfl rfl rfl rfl (go1 (j := 1) (t := 334) rfl (by kernel_rfl) rfl (Eq.trans rfl (vb c73))) (argc (v := .slice A27 l27.length k27) rfl argn) ?_
      refine (laws_jSum.calls k A27 k27 l27 _ _ (C27 _ (Below.refl _ _)) q27 e74).mono ?_
      rintro e w74 ⟨rfl, d74⟩
      have bb74 := Drawn0.below d74
      refine ⟨_, rfl, ?_⟩
      refine mv_ (v := .int .i64 a5) rfl rfl rfl (go1 (j := 1) (t := 334) rfl (by kernel_rfl) rfl (Eq.trans rfl (vb c73))) h5 ?_
      refine bi_ (v := .bool ((r74_0 != a5))) rfl rfl rfl rfl (go1 (j := 1) (t := 334) rfl (by kernel_rfl) rfl (Eq.trans rfl (vb c73))) rfl rfl (i_neq rfl) ?_
      refine mv_ (v := .bool (r74_0 != a5)) rfl rfl rfl (go1 (j := 1) (t := 334) rfl (by kernel_rfl) rfl (Eq.trans rfl (vb c73))) rfl ?_
      obtain ⟨d75, e75, h⟩ := bind_ h
      refine cut_ 7 (fun f g w' => Same 49 f g ∧ g 346 = .bool d75 ∧ g 334 = .bool true ∧ Below w74.heap.size w74 w') ?_ ?_
      · clear h; have h := e75; clear e75
        rcases ifs h with ⟨c76, h⟩ | ⟨c76, h⟩
        · refine skp (no1 (j := 6) (t := 339) rfl (by kernel_rfl) rfl (Eq.trans rfl (vb c76)) rfl) rfl ?_
          refine skp (no1 (j := 6) (t := 339) rfl (by kernel_rfl) rfl (Eq.trans rfl (vb c76)) rfl) rfl ?_
          refine skp (no1 (j := 6) (t := 339) rfl (by kernel_rfl) rfl (Eq.trans rfl (vb c76)) rfl) rfl ?_
          refine skp (no1 (j := 6) (t := 339) rfl (by kernel_rfl) rfl (Eq.trans rfl (vb c76)) rfl) rfl ?_
          refine skp (no1 (j := 6) (t := 339) rfl (by kernel_rfl) rfl (Eq.trans rfl (vb c76)) rfl) rfl ?_
          refine skp (no1 (j := 6) (t := 339) rfl (by kernel_rfl) rfl (Eq.trans rfl (vb c76)) rfl) rfl ?_
          refine pk_ (b := true) (v := .bool true) rfl rfl rfl rfl rfl (go1 (j := 1) (t := 334) rfl (by kernel_rfl) rfl (Eq.trans rfl (vb c73))) (Eq.trans rfl (vb c76)) rfl ?_
          refine wpList_nil ?_
          exact then_n ⟨_, rfl, (Same.put (Same.put (Same.put (Same.put (Same.put (Same.put (Same.put (Same.refl _ _) rfl) rfl) rfl) rfl) rfl) rfl) rfl), (Eq.trans rfl (vb (Option.some.inj h))), (Eq.trans rfl (vb c73)), (Below.refl _ _)⟩
        · refine mv_ (v := .slice A27 l27.length k27) rfl rfl rfl (go1 (j := 6) (t := 339) rfl (by kernel_rfl) rfl (Eq.trans rfl (vb c76))) h27 ?_
          refine ln_ laws_FnCutsPay.u24 rfl rfl rfl (go1 (j := 6) (t := 339) rfl (by kernel_rfl) rfl (Eq.trans rfl (vb c76))) rfl ?_
          refine mv_ (v := .slice A6 l6.length k6) rfl rfl rfl (go1 (j := 6) (t := 339) rfl (by kernel_rfl) rfl (Eq.trans rfl (vb c76))) h6 ?_
          refine ln_ laws_FnCutsPay.u24 rfl rfl rfl (go1 (j := 6) (t := 339) rfl (by kernel_rfl) rfl (Eq.trans rfl (vb c76))) rfl ?_
          refine bi_ (v := .int .i64 (wrap64 (2 * (l6.length : Int)))) rfl rfl rfl rfl (go1 (j := 6) (t := 339) rfl (by kernel_rfl) rfl (Eq.trans rfl (vb c76))) rfl rfl (i_mul rfl) ?_
          refine bi_ (v := .bool (decide ((wrap64 (2 * (l6.length : Int))) < (l27.length : Int)))) rfl rfl rfl rfl (go1 (j := 6) (t := 339) rfl (by kernel_rfl) rfl (Eq.trans rfl (vb c76))) rfl rfl (i_gtr rfl) ?_
          refine pk_ (b := false) (v := .bool (decide ((wrap64 (2 * (l6.length : Int))) < (l27.length : Int)))) rfl rfl rfl rfl rfl (go1 (j := 1) (t := 334) rfl (by kernel_rfl) rfl (Eq.trans rfl (vb c73))) (Eq.trans rfl (vb c76)) rfl ?_
          refine wpList_nil ?_
          exact then_n ⟨_, rfl, (Same.put (Same.put (Same.put (Same.put (Same.put (Same.put (Same.put (Same.refl _ _) rfl) rfl) rfl) rfl) rfl) rfl) rfl), (Eq.trans rfl (vb (Option.some.inj h))), (Eq.trans rfl (vb c73)), (Below.refl _ _)⟩
      · clear e75; rintro g75 w75 ⟨S75, x75_346, x75_334, bb75⟩
        refine mv_ (v := .bool d75) rfl rfl rfl (go1 (j := 1) (t := 334) rfl (by kernel_rfl) rfl x75_334) x75_346 ?_
        obtain ⟨d77, e77, h⟩ := bind_ h
        refine cut_ 6 (fun f g w' => Same 49 f g ∧ g 353 = .bool d77 ∧ g 334 = .bool true ∧ Below w75.heap.size w75 w') ?_ ?_
        · clear h; have h := e77; clear e77
          rcases ifs h with ⟨c78, h⟩ | ⟨c78, h⟩
          · refine skp (no1 (j := 14) (t := 347) rfl (by kernel_rfl) rfl (Eq.trans rfl (vb c78)) rfl) rfl ?_
            refine skp (no1 (j := 14) (t := 347) rfl (by kernel_rfl) rfl (Eq.trans rfl (vb c78)) rfl) rfl ?_
            refine skp (no1 (j := 14) (t := 347) rfl (by kernel_rfl) rfl (Eq.trans rfl (vb c78)) rfl) rfl ?_
            refine skp (no1 (j := 14) (t := 347) rfl (by kernel_rfl) rfl (Eq.trans rfl (vb c78)) rfl) rfl ?_
            refine skp (no1 (j := 14) (t := 347) rfl (by kernel_rfl) rfl (Eq.trans rfl (vb c78)) rfl) rfl ?_
            refine pk_ (b := true) (v := .bool true) rfl rfl rfl rfl rfl (go1 (j := 1) (t := 334) rfl (by kernel_rfl) rfl x75_334) (Eq.trans rfl (vb c78)) rfl ?_
            refine wpList_nil ?_
            exact then_n ⟨_, rfl, (Same.put (Same.put (Same.put (Same.put (Same.put (Same.put (Same.refl _ _) rfl) rfl) rfl) rfl) rfl) rfl), (Eq.trans rfl (vb (Option.some.inj h))), x75_334, (Below.refl _ _)⟩
          · refine mv_ (v := .slice A27 l27.length k27) rfl rfl rfl (go1 (j := 14) (t := 347) rfl (by kernel_rfl) rfl (Eq.trans rfl (vb c78))) (Eq.trans (S75 27 rfl) h27) ?_
            obtain ⟨r79_0, e79, h⟩ := bind_ h
            refine cl_ Try.func137 (by kernel_rfl) rfl rfl rfl rfl (go1 (j := 14) (t := 347) rfl (by kernel_rfl) rfl (Eq.trans rfl (vb c78))) (argc (v := .slice A27 l27.length k27) rfl (argc (v := .int .i64 1) rfl argn)) ?_
            refine (laws_jCount.calls k A27 k27 l27 1 _ _ (C27 _ (below_step bb74 bb75)) q27 e79).mono ?_
            rintro e w79 ⟨rfl, d79⟩
            have bb79 := Drawn0.below d79
            refine ⟨_, rfl, ?_⟩
            refine mv_ (v := .slice A6 l6.length k6) rfl rfl rfl (go1 (j := 14) (t := 347) rfl (by kernel_rfl) rfl (Eq.trans rfl (vb c78))) (Eq.trans (S75 6 rfl) h6) ?_
            refine ln_ laws_FnCutsPay.u24 rfl rfl rfl (go1 (j := 14) (t := 347) rfl (by kernel_rfl) rfl (Eq.trans rfl (vb c78))) rfl ?_
            refine bi_ (v := .bool (decide (r79_0 < (l6.length : Int)))) rfl rfl rfl rfl (go1 (j := 14) (t := 347) rfl (by kernel_rfl) rfl (Eq.trans rfl (vb c78))) rfl rfl (i_lss rfl) ?_
            refine pk_ (b := false) (v := .bool (decide (r79_0 < (l6.length : Int)))) rfl rfl rfl rfl rfl (go1 (j := 1) (t := 334) rfl (by kernel_rfl) rfl x75_334) (Eq.trans rfl (vb c78)) rfl ?_
            refine wpList_nil ?_
            exact then_n ⟨_, rfl, (Same.put (Same.put (Same.put (Same.put (Same.put (Same.put (Same.refl _ _) rfl) rfl) rfl) rfl) rfl) rfl), (Eq.trans rfl (vb (Option.some.inj h))), x75_334, bb79⟩
        · clear e77; rintro g77 w77 ⟨S77, x77_353, x77_334, bb77⟩
          refine pk_ (b := true) (v := .bool d77) rfl rfl rfl rfl rfl (go0 rfl) x77_334 x77_353 ?_
          refine wpList_nil ?_
          exact then_n ⟨_, rfl, (Same.put (Same.trans (Same.put (Same.trans (Same.put (Same.put (Same.put (Same.put (Same.put (Same.refl _ _) rfl) rfl) rfl) rfl) rfl) S75) rfl) S77) rfl), (Eq.trans rfl (vb (Option.some.inj h))), (below_step (below_step bb74 bb75) bb77)⟩
    · refine skp (no1 (j := 1) (t := 334) rfl (by kernel_rfl) rfl (Eq.trans rfl (vb c73)) rfl) rfl ?_
      refine skp (no1 (j := 1) (t := 334) rfl (by kernel_rfl) rfl (Eq.trans rfl (vb c73)) rfl) rfl ?_
      refine skp (no1 (j := 1) (t := 334) rfl (by kernel_rfl) rfl (Eq.trans rfl (vb c73)) rfl) rfl ?_
      refine skp (no1 (j := 1) (t := 334) rfl (by kernel_rfl) rfl (Eq.trans rfl (vb c73)) rfl) rfl ?_
      refine skp (no1 (j := 1) (t := 334) rfl (by kernel_rfl) rfl (Eq.trans rfl (vb c73)) rfl) rfl ?_
      refine skp (no1u (j := 6) (t := 339) rfl (by kernel_rfl) rfl rfl) rfl ?_
      refine skp (no1u (j := 6) (t := 339) rfl (by kernel_rfl) rfl rfl) rfl ?_
      refine skp (no1u (j := 6) (t := 339) rfl (by kernel_rfl) rfl rfl) rfl ?_
      refine skp (no1u (j := 6) (t := 339) rfl (by kernel_rfl) rfl rfl) rfl ?_
      refine skp (no1u (j := 6) (t := 339) rfl (by kernel_rfl) rfl rfl) rfl ?_
      refine skp (no1u (j := 6) (t := 339) rfl (by kernel_rfl) rfl rfl) rfl ?_
      refine skp (no1 (j := 1) (t := 334) rfl (by kernel_rfl) rfl (Eq.trans rfl (vb c73)) rfl) rfl ?_
      refine skp (no1 (j := 1) (t := 334) rfl (by kernel_rfl) rfl (Eq.trans rfl (vb c73)) rfl) rfl ?_
      refine skp (no1u (j := 14) (t := 347) rfl (by kernel_rfl) rfl rfl) rfl ?_
      refine skp (no1u (j := 14) (t := 347) rfl (by kernel_rfl) rfl rfl) rfl ?_
      refine skp (no1u (j := 14) (t := 347) rfl (by kernel_rfl) rfl rfl) rfl ?_
      refine skp (no1u (j := 14) (t := 347) rfl (by kernel_rfl) rfl rfl) rfl ?_
      refine skp (no1u (j := 14) (t := 347) rfl (by kernel_rfl) rfl rfl) rfl ?_
      refine skp (no1 (j := 1) (t := 334) rfl (by kernel_rfl) rfl (Eq.trans rfl (vb c73)) rfl) rfl ?_
      refine pk_ (b := false) (v := .bool false) rfl rfl rfl rfl rfl (go0 rfl) (Eq.trans rfl (vb c73)) rfl ?_
      refine wpList_nil ?_
      exact then_n ⟨_, rfl, (Same.put (Same.put (Same.put (Same.put (Same.put (Same.put (Same.put (Same.put (Same.put (Same.put (Same.put (Same.put (Same.put (Same.put (Same.put (Same.put (Same.put (Same.put (Same.put (Same.put (Same.refl _ _) rfl) rfl) rfl) rfl) rfl) rfl) rfl) rfl) rfl) rfl) rfl) rfl) rfl) rfl) rfl) rfl) rfl) rfl) rfl) rfl), (Eq.trans rfl (vb (Option.some.inj h))), (Below.refl _ _)⟩
  · clear e72; rintro g72 w72 ⟨S72, x72_354, bb72⟩
    refine nilt ?_
    refine cF ?_ x72_354 rfl
    refine wp_skip ?_
    refine then_n ?_
    refine wp_seq ?_
    refine wp_region_lit ?_
    refine m0 (.slice A1 l1.length k1) rfl rfl rfl rfl (Eq.trans (S72 1 rfl) h1) ?_
    obtain ⟨⟨r80_1, r80_2⟩, e80, h⟩ := bind_ h
    refine cl_ Try.func138 (by kernel_rfl) rfl rfl rfl rfl (go0 rfl) (argc (v := .slice A1 l1.length k1) rfl argn) ?_
    refine (spec_DrawNeedlessCuts.calls k A1 k1 l1 _ _ _ (C1 _ bb72) q1 e80).mono ?_
    rintro e w80 ⟨u80_1, rfl, ou80_1, bb80⟩
    obtain ⟨Au80_1, ku80_1, xu80_1, qu80_1, Cu80_1⟩ := R3 ou80_1; subst xu80_1
    refine ⟨_, rfl, ?_⟩
    refine m0 (.tuple #[.int .i64 r80_1, .slice Au80_1 r80_2.length ku80_1]) rfl rfl rfl rfl rfl ?_
    refine x0 (.int .i64 r80_1) rfl rfl rfl rfl rfl rfl ?_
    refine x0 (.slice Au80_1 r80_2.length ku80_1) rfl rfl rfl rfl rfl rfl ?_
    refine a0 (.int .i64 r80_1) rfl rfl rfl rfl rfl ?_
    refine a0 (.slice Au80_1 r80_2.length ku80_1) rfl rfl rfl rfl rfl ?_
    refine nilt ?_
    refine wp_seq ?_
    refine wp_region_lit ?_
    refine m0 (.int .i64 r80_1) rfl rfl rfl rfl rfl ?_
    refine m0 (.slice Au80_1 r80_2.length ku80_1) rfl rfl rfl rfl rfl ?_
    obtain ⟨⟨r81_1, r81_2⟩, e81, h⟩ := bind_ h
    refine cl_ Try.func139 (by kernel_rfl) rfl rfl rfl rfl (go0 rfl) (argc (v := .int .i64 r80_1) rfl (argc (v := .slice Au80_1 r80_2.length ku80_1) rfl argn)) ?_
    refine (impl_NeedlessCuts.calls k r80_1 Au80_1 ku80_1 r80_2 _ _ _ (Cu80_1 _ (Below.refl _ _)) qu80_1 e81).mono ?_
    rintro e w81 ⟨u81_0, rfl, ou81_0, bb81⟩
    obtain ⟨Au81_0, ku81_0, xu81_0, qu81_0, Cu81_0⟩ := R3 ou81_0; subst xu81_0
    refine ⟨_, rfl, ?_⟩
    refine m0 (.tuple #[.slice Au81_0 r81_1.length ku81_0, .bool r81_2]) rfl rfl rfl rfl rfl ?_
    refine x0 (.slice Au81_0 r81_1.length ku81_0) rfl rfl rfl rfl rfl rfl ?_
    refine x0 (.bool r81_2) rfl rfl rfl rfl rfl rfl ?_
    refine a0 (.slice Au81_0 r81_1.length ku81_0) rfl rfl rfl rfl rfl ?_
    refine a0 (.bool r81_2) rfl rfl rfl rfl rfl ?_
    refine nilt ?_
    refine wp_seq ?_
    refine wp_region_lit ?_
    refine m0 (.int .i64 r80_1) rfl rfl rfl rfl rfl ?_
    refine m0 (.slice Au80_1 r80_2.length ku80_1) rfl rfl rfl rfl rfl ?_
    obtain ⟨⟨r82_1, r82_2⟩, e82, h⟩ := bind_ h
    refine cl_ Try.func140 (by kernel_rfl) rfl rfl rfl rfl (go0 rfl) (argc (v := .int .i64 r80_1) rfl (argc (v := .slice Au80_1 r80_2.length ku80_1) rfl argn)) ?_
    refine (spec_NeedlessCuts.calls k r80_1 Au80_1 ku80_1 r80_2 _ _ _ (Cu80_1 _ bb81) qu80_1 e82).mono ?_
    rintro e w82 ⟨u82_0, rfl, ou82_0, bb82⟩
    obtain ⟨Au82_0, ku82_0, xu82_0, qu82_0, Cu82_0⟩ := R3 ou82_0; subst xu82_0
    refine ⟨_, rfl, ?_⟩
    refine m0 (.tuple #[.slice Au82_0 r82_1.length ku82_0, .bool r82_2]) rfl rfl rfl rfl rfl ?_
    refine x0 (.slice Au82_0 r82_1.length ku82_0) rfl rfl rfl rfl rfl rfl ?_
    refine x0 (.bool r82_2) rfl rfl rfl rfl rfl rfl ?_
    refine a0 (.slice Au82_0 r82_1.length ku82_0) rfl rfl rfl rfl rfl ?_
    refine a0 (.bool r82_2) rfl rfl rfl rfl rfl ?_
    refine nilt ?_
    refine wp_seq ?_
    refine wp_seq ?_
    refine wp_region_lit ?_
    refine m0 (.bool r81_2) rfl rfl rfl rfl rfl ?_
    refine m0 (.bool r82_2) rfl rfl rfl rfl rfl ?_
    obtain ⟨c83, h⟩ := ifn h
    refine bb_ (v := .bool (false)) rfl rfl rfl rfl (go0 rfl) rfl rfl (b_neq laws_FnCutsPay.u4 c83) ?_
    refine m0 (.bool false) rfl rfl rfl rfl rfl ?_
    refine mv_ (v := .slice Au81_0 r81_1.length ku81_0) rfl rfl rfl (go1 (j := 3) (t := 375) rfl (by kernel_rfl) rfl rfl) rfl ?_
    refine mv_ (v := .slice Au82_0 r82_1.length ku82_0) rfl rfl rfl (go1 (j := 3) (t := 375) rfl (by kernel_rfl) rfl rfl) rfl ?_
    obtain ⟨r84_0, e84, h⟩ := bind_ h
    refine cl_ Try.func132 (by kernel_rfl) rfl rfl rfl rfl (go1 (j := 3) (t := 375) rfl (by kernel_rfl) rfl rfl) (argc (v := .slice Au81_0 r81_1.length ku81_0) rfl (argc (v := .slice Au82_0 r82_1.length ku82_0) rfl argn)) ?_
    refine (laws_jSame.calls k Au81_0 ku81_0 r81_1 Au82_0 ku82_0 r82_1 _ _ (Cu81_0 _ bb82) qu81_0 (Cu82_0 _ (Below.refl _ _)) qu82_0 e84).mono ?_
    rintro e w84 ⟨rfl, d84⟩
    have bb84 := Drawn0.below d84
    refine ⟨_, rfl, ?_⟩
    obtain ⟨c85, h⟩ := ifn h
    refine nt_ (c := false) rfl rfl rfl (go1 (j := 3) (t := 375) rfl (by kernel_rfl) rfl rfl) rfl c85 ?_
    refine pk_ (b := false) (v := .bool false) rfl rfl rfl rfl rfl (go0 rfl) rfl rfl ?_
    refine nilt ?_
    refine cF ?_ rfl rfl
    refine wp_skip ?_
    refine then_n ?_
    exact laws_FnCutsPay.w86 k r ws _ _ r80_1 rfl Au80_1 ku80_1 r80_2 rfl qu80_1 (On.adv Cu80_1 (below_step (below_step bb81 bb82) bb84)) Au81_0 ku81_0 r81_1 rfl qu81_0 (On.adv Cu81_0 (below_step bb82 bb84)) r81_2 rfl (below_step B0 (below_step (below_step (below_step (below_step bb72 bb80) bb81) bb82) bb84)) h
def laws_FnCutsPay.p18 (k : Nat) (l1 : List Int) (a5 : Int) (l6 : List Int) (b7 : Bool) (b8 : Bool) (b9 : Bool) (b10 : Bool) (l11 : List Int) (b12 : Bool) (l13 : List Int) (b14 : Bool) (l15 : List Int) (b16 : Bool) (l17 : List Int) (b18 : Bool) (a19 : Int) (b20 : Bool) (a21 : Int) (b22 : Bool) (l23 : List Int) (b24 : Bool) (l25 : List Int) (b26 : Bool) (l27 : List Int) (b28 : Bool) (l29 : List Int) (b30 : Bool) : Option Bool := if (b8 != b10) = true then none else if (b7 != b9) = true then none else if (b12 != b14) = true then none else (laws_jSame.f k l11 l13).bind fun r22_0 => if (!r22_0) = true then none else if (b16 != b18) = true then none else (laws_jSame.f k l15 l17).bind fun r25_0 => if (!r25_0) = true then none else if (b20 != b22) = true then none else if (a19 != a21) = true then none else if (b24 != b26) = true then none else (laws_jSame.f k l23 l25).bind fun r30_0 => if (!r30_0) = true then none else if (b28 != b30) = true then none else (laws_jSame.f k l27 l29).bind fun r33_0 => if (!r33_0) = true then none else (impl_AreCuts.f k a5 l6).bind fun r35_0 => if (b8 != r35_0) = true then none else (impl_AreCuts.f k a5 l6).bind fun r37_0 => (spec_AreCuts.f k a5 l6).bind fun r38_0 => if (r37_0 != r38_0) = true then none else if (b12 != b8) = true then none else if (b16 != b8) = true then none else if (b20 != b8) = true then none else if (b24 != b8) = true then none else (if b8 = true then (some (decide (0 < (l6.length : Int)))) else (some false)).bind fun d44 => if (b28 != d44) = true then none else if b8 = true then ((impl_MirrorCuts.f k a5 l23).bind fun t48 => (impl_DoCutsPay.f k a5 l23).bind fun t49 => (laws_jSum.f k l11).bind fun r50_0 => if (r50_0 != a5) = true then none else (laws_jSum.f k l15).bind fun r52_0 => if (r52_0 != a5) = true then none else if ((l15.length : Int) != (l11.length : Int)) = true then none else if (decide ((wrap64 ((wrap64 (2 * (l6.length : Int))) + 1)) < (l15.length : Int))) = true then none else (impl_ArePieces.f k l15).bind fun r56_0 => if (!r56_0) = true then none else if (b7 != (a19 == a5)) = true then none else if t48.2 = true then ((laws_jSame.f k t48.1 l6).bind fun r60_0 => if (!r60_0) = true then none else if t49.2 = true then (if (t49.1 != b7) = true then none else (impl_RunOf.f k l15).bind fun t64 => if t64.2 = true then (if (t64.1 != a19) = true then none else if b7 = true then ((impl_FewestCuts.f k a5).bind fun t68 => if t68.2 = true then (if (decide ((l6.length : Int) < t68.1)) = true then none else laws_FnCutsPay.p71 k l1 a5 l6 l27 b28) else none) else (laws_FnCutsPay.p71 k l1 a5 l6 l27 b28)) else none) else none) else none) else (laws_FnCutsPay.p71 k l1 a5 l6 l27 b28)
theorem laws_FnCutsPay.w18 (k : Nat) (r : Bool) (ws : World) (f0 : Nat → Value) (w0 : World) (A1 : Option Addr) (k1 : Nat) (l1 : List Int) (h1 : f0 1 = .slice A1 l1.length k1) (q1 : l1.length ≤ k1) (C1 : On w0 fun x => Kd.C (Kd.int .u8) x A1 l1.length l1) (a5 : Int) (h5 : f0 5 = .int .i64 a5) (A6 : Option Addr) (k6 : Nat) (l6 : List Int) (h6 : f0 6 = .slice A6 l6.length k6) (q6 : l6.length ≤ k6) (C6 : On w0 fun x => Kd.C (Kd.int .i64) x A6 l6.length l6) (b7 : Bool) (h7 : f0 7 = .bool b7) (b8 : Bool) (h8 : f0 8 = .bool b8) (b9 : Bool) (h9 : f0 9 = .bool b9) (b10 : Bool) (h10 : f0 10 = .bool b10) (A11 : Option Addr) (k11 : Nat) (l11 : List Int) (h11 : f0 11 = .slice A11 l11.length k11) (q11 : l11.length ≤ k11) (C11 : On w0 fun x => Kd.C (Kd.int .i64) x A11 l11.length l11) (b12 : Bool) (h12 : f0 12 = .bool b12) (A13 : Option Addr) (k13 : Nat) (l13 : List Int) (h13 : f0 13 = .slice A13 l13.length k13) (q13 : l13.length ≤ k13) (C13 : On w0 fun x => Kd.C (Kd.int .i64) x A13 l13.length l13) (b14 : Bool) (h14 : f0 14 = .bool b14) (A15 : Option Addr) (k15 : Nat) (l15 : List Int) (h15 : f0 15 = .slice A15 l15.length k15) (q15 : l15.length ≤ k15) (C15 : On w0 fun x => Kd.C (Kd.int .i64) x A15 l15.length l15) (b16 : Bool) (h16 : f0 16 = .bool b16) (A17 : Option Addr) (k17 : Nat) (l17 : List Int) (h17 : f0 17 = .slice A17 l17.length k17) (q17 : l17.length ≤ k17) (C17 : On w0 fun x => Kd.C (Kd.int .i64) x A17 l17.length l17) (b18 : Bool) (h18 : f0 18 = .bool b18) (a19 : Int) (h19 : f0 19 = .int .i64 a19) (b20 : Bool) (h20 : f0 20 = .bool b20) (a21 : Int) (h21 : f0 21 = .int .i64 a21) (b22 : Bool) (h22 : f0 22 = .bool b22) (A23 : Option Addr) (k23 : Nat) (l23 : List Int) (h23 : f0 23 = .slice A23 l23.length k23) (q23 : l23.length ≤ k23) (C23 : On w0 fun x => Kd.C (Kd.int .i64) x A23 l23.length l23) (b24 : Bool) (h24 : f0 24 = .bool b24) (A25 : Option Addr) (k25 : Nat) (l25 : List Int) (h25 : f0 25 = .slice A25 l25.length k25) (q25 : l25.length ≤ k25) (C25 : On w0 fun x => Kd.C (Kd.int .i64) x A25 l25.length l25) (b26 : Bool) (h26 : f0 26 = .bool b26) (A27 : Option Addr) (k27 : Nat) (l27 : List Int) (h27 : f0 27 = .slice A27 l27.length k27) (q27 : l27.length ≤ k27) (C27 : On w0 fun x => Kd.C (Kd.int .i64) x A27 l27.length l27) (b28 : Bool) (h28 : f0 28 = .bool b28) (A29 : Option Addr) (k29 : Nat) (l29 : List Int) (h29 : f0 29 = .slice A29 l29.length k29) (q29 : l29.length ≤ k29) (C29 : On w0 fun x => Kd.C (Kd.int .i64) x A29 l29.length l29) (b30 : Bool) (h30 : f0 30 = .bool b30) (B0 : Below ws.heap.size ws w0) (h : laws_FnCutsPay.p18 k l1 a5 l6 b7 b8 b9 b10 l11 b12 l13 b14 l15 b16 l17 b18 a19 b20 a21 b22 l23 b24 l25 b26 l27 b28 l29 b30 = some r) : Code.wp Try.prog (srn 15 laws_FnCutsPay.B) (laws_FnCutsPay.Q0 ws r) (fr 415 f0) w0 := by
  unfold laws_FnCutsPay.p18 at h
  refine wp_seq ?_
  refine wp_seq ?_
  refine wp_region_lit ?_
  refine m0 (.bool b8) rfl rfl rfl rfl h8 ?_
  refine m0 (.bool b10) rfl rfl rfl rfl h10 ?_
  obtain ⟨c19, h⟩ := ifn h
  refine bb_ (v := .bool (false)) rfl rfl rfl rfl (go0 rfl) rfl rfl (b_neq laws_FnCutsPay.u4 c19) ?_
  refine m0 (.bool false) rfl rfl rfl rfl rfl ?_
  refine mv_ (v := .bool b7) rfl rfl rfl (go1 (j := 3) (t := 132) rfl (by kernel_rfl) rfl rfl) h7 ?_
  refine mv_ (v := .bool b9) rfl rfl rfl (go1 (j := 3) (t := 132) rfl (by kernel_rfl) rfl rfl) h9 ?_
  obtain ⟨c20, h⟩ := ifn h
  refine bb_ (v := .bool (false)) rfl rfl rfl rfl (go1 (j := 3) (t := 132) rfl (by kernel_rfl) rfl rfl) rfl rfl (b_neq laws_FnCutsPay.u4 c20) ?_
  refine pk_ (b := false) (v := .bool false) rfl rfl rfl rfl rfl (go0 rfl) rfl rfl ?_
  refine m0 (.bool false) rfl rfl rfl rfl rfl ?_
  refine mv_ (v := .bool b12) rfl rfl rfl (go1 (j := 8) (t := 137) rfl (by kernel_rfl) rfl rfl) h12 ?_
  refine mv_ (v := .bool b14) rfl rfl rfl (go1 (j := 8) (t := 137) rfl (by kernel_rfl) rfl rfl) h14 ?_
  obtain ⟨c21, h⟩ := ifn h
  refine bb_ (v := .bool (false)) rfl rfl rfl rfl (go1 (j := 8) (t := 137) rfl (by kernel_rfl) rfl rfl) rfl rfl (b_neq laws_FnCutsPay.u4 c21) ?_
  refine pk_ (b := false) (v := .bool false) rfl rfl rfl rfl rfl (go0 rfl) rfl rfl ?_
  refine m0 (.bool false) rfl rfl rfl rfl rfl ?_
  refine mv_ (v := .slice A11 l11.length k11) rfl rfl rfl (go1 (j := 13) (t := 142) rfl (by kernel_rfl) rfl rfl) h11 ?_
  refine mv_ (v := .slice A13 l13.length k13) rfl rfl rfl (go1 (j := 13) (t := 142) rfl (by kernel_rfl) rfl rfl) h13 ?_
  obtain ⟨r22_0, e22, h⟩ := bind_ h
  refine cl_ Try.func132 (by kernel_rfl) rfl rfl rfl rfl (go1 (j := 13) (t := 142) rfl (by kernel_rfl) rfl rfl) (argc (v := .slice A11 l11.length k11) rfl (argc (v := .slice A13 l13.length k13) rfl argn)) ?_
  refine (laws_jSame.calls k A11 k11 l11 A13 k13 l13 _ _ (C11 _ (Below.refl _ _)) q11 (C13 _ (Below.refl _ _)) q13 e22).mono ?_
  rintro e w22 ⟨rfl, d22⟩
  have bb22 := Drawn0.below d22
  refine ⟨_, rfl, ?_⟩
  obtain ⟨c23, h⟩ := ifn h
  refine nt_ (c := false) rfl rfl rfl (go1 (j := 13) (t := 142) rfl (by kernel_rfl) rfl rfl) rfl c23 ?_
  refine pk_ (b := false) (v := .bool false) rfl rfl rfl rfl rfl (go0 rfl) rfl rfl ?_
  refine m0 (.bool false) rfl rfl rfl rfl rfl ?_
  refine mv_ (v := .bool b16) rfl rfl rfl (go1 (j := 19) (t := 148) rfl (by kernel_rfl) rfl rfl) h16 ?_
  refine mv_ (v := .bool b18) rfl rfl rfl (go1 (j := 19) (t := 148) rfl (by kernel_rfl) rfl rfl) h18 ?_
  obtain ⟨c24, h⟩ := ifn h
  refine bb_ (v := .bool (false)) rfl rfl rfl rfl (go1 (j := 19) (t := 148) rfl (by kernel_rfl) rfl rfl) rfl rfl (b_neq laws_FnCutsPay.u4 c24) ?_
  refine pk_ (b := false) (v := .bool false) rfl rfl rfl rfl rfl (go0 rfl) rfl rfl ?_
  refine m0 (.bool false) rfl rfl rfl rfl rfl ?_
  refine mv_ (v := .slice A15 l15.length k15) rfl rfl rfl (go1 (j := 24) (t := 153) rfl (by kernel_rfl) rfl rfl) h15 ?_
  refine mv_ (v := .slice A17 l17.length k17) rfl rfl rfl (go1 (j := 24) (t := 153) rfl (by kernel_rfl) rfl rfl) h17 ?_
  obtain ⟨r25_0, e25, h⟩ := bind_ h
  refine cl_ Try.func132 (by kernel_rfl) rfl rfl rfl rfl (go1 (j := 24) (t := 153) rfl (by kernel_rfl) rfl rfl) (argc (v := .slice A15 l15.length k15) rfl (argc (v := .slice A17 l17.length k17) rfl argn)) ?_
  refine (laws_jSame.calls k A15 k15 l15 A17 k17 l17 _ _ (C15 _ bb22) q15 (C17 _ bb22) q17 e25).mono ?_
  rintro e w25 ⟨rfl, d25⟩
  have bb25 := Drawn0.below d25
  refine ⟨_, rfl, ?_⟩
  obtain ⟨c26, h⟩ := ifn h
  refine nt_ (c := false) rfl rfl rfl (go1 (j := 24) (t := 153) rfl (by kernel_rfl) rfl rfl) rfl c26 ?_
  refine pk_ (b := false) (v := .bool false) rfl rfl rfl rfl rfl (go0 rfl) rfl rfl ?_
  refine m0 (.bool false) rfl rfl rfl rfl rfl ?_
  refine mv_ (v := .bool b20) rfl rfl rfl (go1 (j := 30) (t := 159) rfl (by kernel_rfl) rfl rfl) h20 ?_
  refine mv_ (v := .bool b22) rfl rfl rfl (go1 (j := 30) (t := 159) rfl (by kernel_rfl) rfl rfl) h22 ?_
  obtain ⟨c27, h⟩ := ifn h
  refine bb_ (v := .bool (false)) rfl rfl rfl rfl (go1 (j := 30) (t := 159) rfl (by kernel_rfl) rfl rfl) rfl rfl (b_neq laws_FnCutsPay.u4 c27) ?_
  refine pk_ (b := false) (v := .bool false) rfl rfl rfl rfl rfl (go0 rfl) rfl rfl ?_
  refine m0 (.bool false) rfl rfl rfl rfl rfl ?_
  refine mv_ (v := .int .i64 a19) rfl rfl rfl (go1 (j := 35) (t := 164) rfl (by kernel_rfl) rfl rfl) h19 ?_
  refine mv_ (v := .int .i64 a21) rfl rfl rfl (go1 (j := 35) (t := 164) rfl (by kernel_rfl) rfl rfl) h21 ?_
  obtain ⟨c28, h⟩ := ifn h
  refine bi_ (v := .bool (false)) rfl rfl rfl rfl (go1 (j := 35) (t := 164) rfl (by kernel_rfl) rfl rfl) rfl rfl (i_neq c28) ?_
  refine pk_ (b := false) (v := .bool false) rfl rfl rfl rfl rfl (go0 rfl) rfl rfl ?_
  refine m0 (.bool false) rfl rfl rfl rfl rfl ?_
  refine mv_ (v := .bool b24) rfl rfl rfl (go1 (j := 40) (t := 169) rfl (by kernel_rfl) rfl rfl) h24 ?_
  refine mv_ (v := .bool b26) rfl rfl rfl (go1 (j := 40) (t := 169) rfl (by kernel_rfl) rfl rfl) h26 ?_
  obtain ⟨c29, h⟩ := ifn h
  refine bb_ (v := .bool (false)) rfl rfl rfl rfl (go1 (j := 40) (t := 169) rfl (by kernel_rfl) rfl rfl) rfl rfl (b_neq laws_FnCutsPay.u4 c29) ?_
  refine pk_ (b := false) (v := .bool false) rfl rfl rfl rfl rfl (go0 rfl) rfl rfl ?_
  refine m0 (.bool false) rfl rfl rfl rfl rfl ?_
  refine mv_ (v := .slice A23 l23.length k23) rfl rfl rfl (go1 (j := 45) (t := 174) rfl (by kernel_rfl) rfl rfl) h23 ?_
  refine mv_ (v := .slice A25 l25.length k25) rfl rfl rfl (go1 (j := 45) (t := 174) rfl (by kernel_rfl) rfl rfl) h25 ?_
  obtain ⟨r30_0, e30, h⟩ := bind_ h
  refine cl_ Try.func132 (by kernel_rfl) rfl rfl rfl rfl (go1 (j := 45) (t := 174) rfl (by kernel_rfl) rfl rfl) (argc (v := .slice A23 l23.length k23) rfl (argc (v := .slice A25 l25.length k25) rfl argn)) ?_
  refine (laws_jSame.calls k A23 k23 l23 A25 k25 l25 _ _ (C23 _ (below_step bb22 bb25)) q23 (C25 _ (below_step bb22 bb25)) q25 e30).mono ?_
  rintro e w30 ⟨rfl, d30⟩
  have bb30 := Drawn0.below d30
  refine ⟨_, rfl, ?_⟩
  obtain ⟨c31, h⟩ := ifn h
  refine nt_ (c := false) rfl rfl rfl (go1 (j := 45) (t := 174) rfl (by kernel_rfl) rfl rfl) rfl c31 ?_
  refine pk_ (b := false) (v := .bool false) rfl rfl rfl rfl rfl (go0 rfl) rfl rfl ?_
  refine m0 (.bool false) rfl rfl rfl rfl rfl ?_
  refine mv_ (v := .bool b28) rfl rfl rfl (go1 (j := 51) (t := 180) rfl (by kernel_rfl) rfl rfl) h28 ?_
  refine mv_ (v := .bool b30) rfl rfl rfl (go1 (j := 51) (t := 180) rfl (by kernel_rfl) rfl rfl) h30 ?_
  obtain ⟨c32, h⟩ := ifn h
  refine bb_ (v := .bool (false)) rfl rfl rfl rfl (go1 (j := 51) (t := 180) rfl (by kernel_rfl) rfl rfl) rfl rfl (b_neq laws_FnCutsPay.u4 c32) ?_
  refine pk_ (b := false) (v := .bool false) rfl rfl rfl rfl rfl (go0 rfl) rfl rfl ?_
  refine m0 (.bool false) rfl rfl rfl rfl rfl ?_
  refine mv_ (v := .slice A27 l27.length k27) rfl rfl rfl (go1 (j := 56) (t := 185) rfl (by kernel_rfl) rfl rfl) h27 ?_
  refine mv_ (v := .slice A29 l29.length k29) rfl rfl rfl (go1 (j := 56) (t := 185) rfl (by kernel_rfl) rfl rfl) h29 ?_
  obtain ⟨r33_0, e33, h⟩ := bind_ h
  refine cl_ Try.func132 (by kernel_rfl) rfl rfl rfl rfl (go1 (j := 56) (t := 185) rfl (by kernel_rfl) rfl rfl) (argc (v := .slice A27 l27.length k27) rfl (argc (v := .slice A29 l29.length k29) rfl argn)) ?_
  refine (laws_jSame.calls k A27 k27 l27 A29 k29 l29 _ _ (C27 _ (below_step (below_step bb22 bb25) bb30)) q27 (C29 _ (below_step (below_step bb22 bb25) bb30)) q29 e33).mono ?_
  rintro e w33 ⟨rfl, d33⟩
  have bb33 := Drawn0.below d33
  refine ⟨_, rfl, ?_⟩
  obtain ⟨c34, h⟩ := ifn h
  refine nt_ (c := false) rfl rfl rfl (go1 (j := 56) (t := 185) rfl (by kernel_rfl) rfl rfl) rfl c34 ?_
  refine pk_ (b := false) (v := .bool false) rfl rfl rfl rfl rfl (go0 rfl) rfl rfl ?_
  refine m0 (.bool false) rfl rfl rfl rfl rfl ?_
  refine mv_ (v := .bool b8) rfl rfl rfl (go1 (j := 62) (t := 191) rfl (by kernel_rfl) rfl rfl) h8 ?_
  refine mv_ (v := .int .i64 a5) rfl rfl rfl (go1 (j := 62) (t := 191) rfl (by kernel_rfl) rfl rfl) h5 ?_
  refine mv_ (v := .slice A6 l6.length k6) rfl rfl rfl (go1 (j := 62) (t := 191) rfl (by kernel_rfl) rfl rfl) h6 ?_
  obtain ⟨r35_0, e35, h⟩ := bind_ h
  refine cl_ Try.func133 (by kernel_rfl) rfl rfl rfl rfl (go1 (j := 62) (t := 191) rfl (by kernel_rfl) rfl rfl) (argc (v := .int .i64 a5) rfl (argc (v := .slice A6 l6.length k6) rfl argn)) ?_
  refine (impl_AreCuts.calls k a5 A6 k6 l6 _ _ (C6 _ (below_step (below_step (below_step bb22 bb25) bb30) bb33)) q6 e35).mono ?_
  rintro e w35 ⟨rfl, bb35⟩
  refine ⟨_, rfl, ?_⟩
  obtain ⟨c36, h⟩ := ifn h
  refine bb_ (v := .bool (false)) rfl rfl rfl rfl (go1 (j := 62) (t := 191) rfl (by kernel_rfl) rfl rfl) rfl rfl (b_neq laws_FnCutsPay.u4 c36) ?_
  refine pk_ (b := false) (v := .bool false) rfl rfl rfl rfl rfl (go0 rfl) rfl rfl ?_
  refine m0 (.bool false) rfl rfl rfl rfl rfl ?_
  refine mv_ (v := .int .i64 a5) rfl rfl rfl (go1 (j := 69) (t := 198) rfl (by kernel_rfl) rfl rfl) h5 ?_
  refine mv_ (v := .slice A6 l6.length k6) rfl rfl rfl (go1 (j := 69) (t := 198) rfl (by kernel_rfl) rfl rfl) h6 ?_
  obtain ⟨r37_0, e37, h⟩ := bind_ h
  refine cl_ Try.func133 (by kernel_rfl) rfl rfl rfl rfl (go1 (j := 69) (t := 198) rfl (by kernel_rfl) rfl rfl) (argc (v := .int .i64 a5) rfl (argc (v := .slice A6 l6.length k6) rfl argn)) ?_
  refine (impl_AreCuts.calls k a5 A6 k6 l6 _ _ (C6 _ (below_step (below_step (below_step (below_step bb22 bb25) bb30) bb33) bb35)) q6 e37).mono ?_
  rintro e w37 ⟨rfl, bb37⟩
  refine ⟨_, rfl, ?_⟩
  refine mv_ (v := .int .i64 a5) rfl rfl rfl (go1 (j := 69) (t := 198) rfl (by kernel_rfl) rfl rfl) h5 ?_
  refine mv_ (v := .slice A6 l6.length k6) rfl rfl rfl (go1 (j := 69) (t := 198) rfl (by kernel_rfl) rfl rfl) h6 ?_
  obtain ⟨r38_0, e38, h⟩ := bind_ h
  refine cl_ Try.func134 (by kernel_rfl) rfl rfl rfl rfl (go1 (j := 69) (t := 198) rfl (by kernel_rfl) rfl rfl) (argc (v := .int .i64 a5) rfl (argc (v := .slice A6 l6.length k6) rfl argn)) ?_
  refine (spec_AreCuts.calls k a5 A6 k6 l6 _ _ (C6 _ (below_step (below_step (below_step (below_step (below_step bb22 bb25) bb30) bb33) bb35) bb37)) q6 e38).mono ?_
  rintro e w38 ⟨rfl, d38⟩
  have bb38 := Drawn0.below d38
  refine ⟨_, rfl, ?_⟩
  obtain ⟨c39, h⟩ := ifn h
  refine bb_ (v := .bool (false)) rfl rfl rfl rfl (go1 (j := 69) (t := 198) rfl (by kernel_rfl) rfl rfl) rfl rfl (b_neq laws_FnCutsPay.u4 c39) ?_
  refine pk_ (b := false) (v := .bool false) rfl rfl rfl rfl rfl (go0 rfl) rfl rfl ?_
  refine m0 (.bool false) rfl rfl rfl rfl rfl ?_
  refine mv_ (v := .bool b12) rfl rfl rfl (go1 (j := 78) (t := 207) rfl (by kernel_rfl) rfl rfl) h12 ?_
  refine mv_ (v := .bool b8) rfl rfl rfl (go1 (j := 78) (t := 207) rfl (by kernel_rfl) rfl rfl) h8 ?_
  obtain ⟨c40, h⟩ := ifn h
  refine bb_ (v := .bool (false)) rfl rfl rfl rfl (go1 (j := 78) (t := 207) rfl (by kernel_rfl) rfl rfl) rfl rfl (b_neq laws_FnCutsPay.u4 c40) ?_
  refine pk_ (b := false) (v := .bool false) rfl rfl rfl rfl rfl (go0 rfl) rfl rfl ?_
  refine m0 (.bool false) rfl rfl rfl rfl rfl ?_
  refine mv_ (v := .bool b16) rfl rfl rfl (go1 (j := 83) (t := 212) rfl (by kernel_rfl) rfl rfl) h16 ?_
  refine mv_ (v := .bool b8) rfl rfl rfl (go1 (j := 83) (t := 212) rfl (by kernel_rfl) rfl rfl) h8 ?_
  obtain ⟨c41, h⟩ := ifn h
  refine bb_ (v := .bool (false)) rfl rfl rfl rfl (go1 (j := 83) (t := 212) rfl (by kernel_rfl) rfl rfl) rfl rfl (b_neq laws_FnCutsPay.u4 c41) ?_
  refine pk_ (b := false) (v := .bool false) rfl rfl rfl rfl rfl (go0 rfl) rfl rfl ?_
  refine m0 (.bool false) rfl rfl rfl rfl rfl ?_
  refine mv_ (v := .bool b20) rfl rfl rfl (go1 (j := 88) (t := 217) rfl (by kernel_rfl) rfl rfl) h20 ?_
  refine mv_ (v := .bool b8) rfl rfl rfl (go1 (j := 88) (t := 217) rfl (by kernel_rfl) rfl rfl) h8 ?_
  obtain ⟨c42, h⟩ := ifn h
  refine bb_ (v := .bool (false)) rfl rfl rfl rfl (go1 (j := 88) (t := 217) rfl (by kernel_rfl) rfl rfl) rfl rfl (b_neq laws_FnCutsPay.u4 c42) ?_
  refine pk_ (b := false) (v := .bool false) rfl rfl rfl rfl rfl (go0 rfl) rfl rfl ?_
  refine m0 (.bool false) rfl rfl rfl rfl rfl ?_
  refine mv_ (v := .bool b24) rfl rfl rfl (go1 (j := 93) (t := 222) rfl (by kernel_rfl) rfl rfl) h24 ?_
  refine mv_ (v := .bool b8) rfl rfl rfl (go1 (j := 93) (t := 222) rfl (by kernel_rfl) rfl rfl) h8 ?_
  obtain ⟨c43, h⟩ := ifn h
  refine bb_ (v := .bool (false)) rfl rfl rfl rfl (go1 (j := 93) (t := 222) rfl (by kernel_rfl) rfl rfl) rfl rfl (b_neq laws_FnCutsPay.u4 c43) ?_
  refine pk_ (b := false) (v := .bool false) rfl rfl rfl rfl rfl (go0 rfl) rfl rfl ?_
  refine m0 (.bool false) rfl rfl rfl rfl rfl ?_
  refine mv_ (v := .bool b28) rfl rfl rfl (go1 (j := 98) (t := 227) rfl (by kernel_rfl) rfl rfl) h28 ?_
  refine mv_ (v := .bool b8) rfl rfl rfl (go1 (j := 98) (t := 227) rfl (by kernel_rfl) rfl rfl) h8 ?_
  refine mv_ (v := .bool b8) rfl rfl rfl (go1 (j := 98) (t := 227) rfl (by kernel_rfl) rfl rfl) rfl ?_
  obtain ⟨d44, e44, h⟩ := bind_ h
  refine cut_ 4 (fun f g w' => Same 49 f g ∧ g 234 = .bool d44 ∧ g 227 = .bool false ∧ g 228 = .bool b28 ∧ Below w38.heap.size w38 w') ?_ ?_
  · clear h; have h := e44; clear e44
    rcases ifs h with ⟨c45, h⟩ | ⟨c45, h⟩
    · refine mv_ (v := .slice A6 l6.length k6) rfl rfl rfl (go1 (j := 101) (t := 230) rfl (by kernel_rfl) rfl (Eq.trans rfl (vb c45))) h6 ?_
      refine ln_ laws_FnCutsPay.u24 rfl rfl rfl (go1 (j := 101) (t := 230) rfl (by kernel_rfl) rfl (Eq.trans rfl (vb c45))) rfl ?_
      refine bi_ (v := .bool (decide (0 < (l6.length : Int)))) rfl rfl rfl rfl (go1 (j := 101) (t := 230) rfl (by kernel_rfl) rfl (Eq.trans rfl (vb c45))) rfl rfl (i_gtr rfl) ?_
      refine pk_ (b := true) (v := .bool (decide (0 < (l6.length : Int)))) rfl rfl rfl rfl rfl (go1 (j := 98) (t := 227) rfl (by kernel_rfl) rfl rfl) (Eq.trans rfl (vb c45)) rfl ?_
      refine wpList_nil ?_
      exact then_n ⟨_, rfl, (Same.put (Same.put (Same.put (Same.put (Same.refl _ _) rfl) rfl) rfl) rfl), (Eq.trans rfl (vb (Option.some.inj h))), rfl, rfl, (Below.refl _ _)⟩
    · refine skp (no1 (j := 101) (t := 230) rfl (by kernel_rfl) rfl (Eq.trans rfl (vb c45)) rfl) rfl ?_
      refine skp (no1 (j := 101) (t := 230) rfl (by kernel_rfl) rfl (Eq.trans rfl (vb c45)) rfl) rfl ?_
      refine skp (no1 (j := 101) (t := 230) rfl (by kernel_rfl) rfl (Eq.trans rfl (vb c45)) rfl) rfl ?_
      refine pk_ (b := false) (v := .bool false) rfl rfl rfl rfl rfl (go1 (j := 98) (t := 227) rfl (by kernel_rfl) rfl rfl) (Eq.trans rfl (vb c45)) rfl ?_
      refine wpList_nil ?_
      exact then_n ⟨_, rfl, (Same.put (Same.put (Same.put (Same.put (Same.refl _ _) rfl) rfl) rfl) rfl), (Eq.trans rfl (vb (Option.some.inj h))), rfl, rfl, (Below.refl _ _)⟩
  · clear e44; rintro g44 w44 ⟨S44, x44_234, x44_227, x44_228, bb44⟩
    obtain ⟨c46, h⟩ := ifn h
    refine bb_ (v := .bool (false)) rfl rfl rfl rfl (go1 (j := 98) (t := 227) rfl (by kernel_rfl) rfl x44_227) x44_228 x44_234 (b_neq laws_FnCutsPay.u4 c46) ?_
    refine pk_ (b := false) (v := .bool false) rfl rfl rfl rfl rfl (go0 rfl) x44_227 rfl ?_
    refine nilt ?_
    refine cF ?_ rfl rfl
    refine wp_skip ?_
    refine then_n ?_
    refine wp_seq ?_
    refine wp_seq ?_
    refine wp_region_lit ?_
    refine m0 (.bool b8) rfl rfl rfl rfl (Eq.trans (S44 8 rfl) h8) ?_
    refine nilt ?_
    rcases ifs h with ⟨c47, h⟩ | ⟨c47, h⟩
    · refine cT ?_ (Eq.trans rfl (vb c47)) rfl
      refine wp_seq ?_
      refine wp_region_lit ?_
      refine m0 (.int .i64 a5) rfl rfl rfl rfl (Eq.trans (S44 5 rfl) h5) ?_
      refine m0 (.slice A23 l23.length k23) rfl rfl rfl rfl (Eq.trans (S44 23 rfl) h23) ?_
      obtain ⟨⟨r48_1, r48_2⟩, e48, h⟩ := bind_ h
      refine cl_ Try.func128 (by kernel_rfl) rfl rfl rfl rfl (go0 rfl) (argc (v := .int .i64 a5) rfl (argc (v := .slice A23 l23.length k23) rfl argn)) ?_
      refine (impl_MirrorCuts.calls k a5 A23 k23 l23 _ _ _ (C23 _ (below_step (below_step (below_step (below_step (below_step (below_step (below_step bb22 bb25) bb30) bb33) bb35) bb37) bb38) bb44)) q23 e48).mono ?_
      rintro e w48 ⟨u48_0, rfl, ou48_0, bb48⟩
      obtain ⟨Au48_0, ku48_0, xu48_0, qu48_0, Cu48_0⟩ := R3 ou48_0; subst xu48_0
      refine ⟨_, rfl, ?_⟩
      refine m0 (.tuple #[.slice Au48_0 r48_1.length ku48_0, .bool r48_2]) rfl rfl rfl rfl rfl ?_
      refine x0 (.slice Au48_0 r48_1.length ku48_0) rfl rfl rfl rfl rfl rfl ?_
      refine x0 (.bool r48_2) rfl rfl rfl rfl rfl rfl ?_
      refine a0 (.slice Au48_0 r48_1.length ku48_0) rfl rfl rfl rfl rfl ?_
      refine a0 (.bool r48_2) rfl rfl rfl rfl rfl ?_
      refine nilt ?_
      refine wp_seq ?_
      refine wp_region_lit ?_
      refine m0 (.int .i64 a5) rfl rfl rfl rfl (Eq.trans (S44 5 rfl) h5) ?_
      refine m0 (.slice A23 l23.length k23) rfl rfl rfl rfl (Eq.trans (S44 23 rfl) h23) ?_
      obtain ⟨⟨r49_1, r49_2⟩, e49, h⟩ := bind_ h
      refine cl_ Try.func120 (by kernel_rfl) rfl rfl rfl rfl (go0 rfl) (argc (v := .int .i64 a5) rfl (argc (v := .slice A23 l23.length k23) rfl argn)) ?_
      refine (impl_DoCutsPay.calls k a5 A23 k23 l23 _ _ _ (C23 _ (below_step (below_step (below_step (below_step (below_step (below_step (below_step (below_step bb22 bb25) bb30) bb33) bb35) bb37) bb38) bb44) bb48)) q23 e49).mono ?_
      rintro e w49 ⟨rfl, bb49⟩
      refine ⟨_, rfl, ?_⟩
      refine m0 (.tuple #[.bool r49_1, .bool r49_2]) rfl rfl rfl rfl rfl ?_
      refine x0 (.bool r49_1) rfl rfl rfl rfl rfl rfl ?_
      refine x0 (.bool r49_2) rfl rfl rfl rfl rfl rfl ?_
      refine a0 (.bool r49_1) rfl rfl rfl rfl rfl ?_
      refine a0 (.bool r49_2) rfl rfl rfl rfl rfl ?_
      refine nilt ?_
      refine wp_seq ?_
      refine wp_seq ?_
      refine wp_region_lit ?_
      refine m0 (.slice A11 l11.length k11) rfl rfl rfl rfl (Eq.trans (S44 11 rfl) h11) ?_
      obtain ⟨r50_0, e50, h⟩ := bind_ h
      refine cl_ Try.func135 (by kernel_rfl) rfl rfl rfl rfl (go0 rfl) (argc (v := .slice A11 l11.length k11) rfl argn) ?_
      refine (laws_jSum.calls k A11 k11 l11 _ _ (C11 _ (below_step (below_step (below_step (below_step (below_step (below_step (below_step (below_step (below_step bb22 bb25) bb30) bb33) bb35) bb37) bb38) bb44) bb48) bb49)) q11 e50).mono ?_
      rintro e w50 ⟨rfl, d50⟩
      have bb50 := Drawn0.below d50
      refine ⟨_, rfl, ?_⟩
      refine m0 (.int .i64 a5) rfl rfl rfl rfl (Eq.trans (S44 5 rfl) h5) ?_
      obtain ⟨c51, h⟩ := ifn h
      refine bi_ (v := .bool (false)) rfl rfl rfl rfl (go0 rfl) rfl rfl (i_neq c51) ?_
      refine m0 (.bool false) rfl rfl rfl rfl rfl ?_
      refine mv_ (v := .slice A15 l15.length k15) rfl rfl rfl (go1 (j := 4) (t := 254) rfl (by kernel_rfl) rfl rfl) (Eq.trans (S44 15 rfl) h15) ?_
      obtain ⟨r52_0, e52, h⟩ := bind_ h
      refine cl_ Try.func135 (by kernel_rfl) rfl rfl rfl rfl (go1 (j := 4) (t := 254) rfl (by kernel_rfl) rfl rfl) (argc (v := .slice A15 l15.length k15) rfl argn) ?_
      refine (laws_jSum.calls k A15 k15 l15 _ _ (C15 _ (below_step (below_step (below_step (below_step (below_step (below_step (below_step (below_step (below_step (below_step bb22 bb25) bb30) bb33) bb35) bb37) bb38) bb44) bb48) bb49) bb50)) q15 e52).mono ?_
      rintro e w52 ⟨rfl, d52⟩
      have bb52 := Drawn0.below d52
      refine ⟨_, rfl, ?_⟩
      refine mv_ (v := .int .i64 a5) rfl rfl rfl (go1 (j := 4) (t := 254) rfl (by kernel_rfl) rfl rfl) (Eq.trans (S44 5 rfl) h5) ?_
      obtain ⟨c53, h⟩ := ifn h
      refine bi_ (v := .bool (false)) rfl rfl rfl rfl (go1 (j := 4) (t := 254) rfl (by kernel_rfl) rfl rfl) rfl rfl (i_neq c53) ?_
      refine pk_ (b := false) (v := .bool false) rfl rfl rfl rfl rfl (go0 rfl) rfl rfl ?_
      refine m0 (.bool false) rfl rfl rfl rfl rfl ?_
      refine mv_ (v := .slice A15 l15.length k15) rfl rfl rfl (go1 (j := 10) (t := 260) rfl (by kernel_rfl) rfl rfl) (Eq.trans (S44 15 rfl) h15) ?_
      refine ln_ laws_FnCutsPay.u24 rfl rfl rfl (go1 (j := 10) (t := 260) rfl (by kernel_rfl) rfl rfl) rfl ?_
      refine mv_ (v := .slice A11 l11.length k11) rfl rfl rfl (go1 (j := 10) (t := 260) rfl (by kernel_rfl) rfl rfl) (Eq.trans (S44 11 rfl) h11) ?_
      refine ln_ laws_FnCutsPay.u24 rfl rfl rfl (go1 (j := 10) (t := 260) rfl (by kernel_rfl) rfl rfl) rfl ?_
      obtain ⟨c54, h⟩ := ifn h
      refine bi_ (v := .bool (false)) rfl rfl rfl rfl (go1 (j := 10) (t := 260) rfl (by kernel_rfl) rfl rfl) rfl rfl (i_neq c54) ?_
      refine pk_ (b := false) (v := .bool false) rfl rfl rfl rfl rfl (go0 rfl) rfl rfl ?_
      refine m0 (.bool false) rfl rfl rfl rfl rfl ?_
      refine mv_ (v := .slice A15 l15.length k15) rfl rfl rfl (go1 (j := 17) (t := 267) rfl (by kernel_rfl) rfl rfl) (Eq.trans (S44 15 rfl) h15) ?_
      refine ln_ laws_FnCutsPay.u24 rfl rfl rfl (go1 (j := 17) (t := 267) rfl (by kernel_rfl) rfl rfl) rfl ?_
      refine mv_ (v := .slice A6 l6.length k6) rfl rfl rfl (go1 (j := 17) (t := 267) rfl (by kernel_rfl) rfl rfl) (Eq.trans (S44 6 rfl) h6) ?_
      refine ln_ laws_FnCutsPay.u24 rfl rfl rfl (go1 (j := 17) (t := 267) rfl (by kernel_rfl) rfl rfl) rfl ?_
      refine bi_ (v := .int .i64 (wrap64 (2 * (l6.length : Int)))) rfl rfl rfl rfl (go1 (j := 17) (t := 267) rfl (by kernel_rfl) rfl rfl) rfl rfl (i_mul rfl) ?_
      refine bi_ (v := .int .i64 (wrap64 ((wrap64 (2 * (l6.length : Int))) + 1))) rfl rfl rfl rfl (go1 (j := 17) (t := 267) rfl (by kernel_rfl) rfl rfl) rfl rfl (i_add rfl) ?_
      obtain ⟨c55, h⟩ := ifn h
      refine bi_ (v := .bool (false)) rfl rfl rfl rfl (go1 (j := 17) (t := 267) rfl (by kernel_rfl) rfl rfl) rfl rfl (i_gtr c55) ?_
      refine pk_ (b := false) (v := .bool false) rfl rfl rfl rfl rfl (go0 rfl) rfl rfl ?_
      refine m0 (.bool false) rfl rfl rfl rfl rfl ?_
      refine mv_ (v := .slice A15 l15.length k15) rfl rfl rfl (go1 (j := 26) (t := 276) rfl (by kernel_rfl) rfl rfl) (Eq.trans (S44 15 rfl) h15) ?_
      obtain ⟨r56_0, e56, h⟩ := bind_ h
      refine cl_ Try.func64 (by kernel_rfl) rfl rfl rfl rfl (go1 (j := 26) (t := 276) rfl (by kernel_rfl) rfl rfl) (argc (v := .slice A15 l15.length k15) rfl argn) ?_
      refine (impl_ArePieces.calls k A15 k15 l15 _ _ (C15 _ (below_step (below_step (below_step (below_step (below_step (below_step (below_step (below_step (below_step (below_step (below_step bb22 bb25) bb30) bb33) bb35) bb37) bb38) bb44) bb48) bb49) bb50) bb52)) q15 e56).mono ?_
      rintro e w56 ⟨rfl, bb56⟩
      refine ⟨_, rfl, ?_⟩
      obtain ⟨c57, h⟩ := ifn h
      refine nt_ (c := false) rfl rfl rfl (go1 (j := 26) (t := 276) rfl (by kernel_rfl) rfl rfl) rfl c57 ?_
      refine pk_ (b := false) (v := .bool false) rfl rfl rfl rfl rfl (go0 rfl) rfl rfl ?_
      refine m0 (.bool false) rfl rfl rfl rfl rfl ?_
      refine mv_ (v := .bool b7) rfl rfl rfl (go1 (j := 31) (t := 281) rfl (by kernel_rfl) rfl rfl) (Eq.trans (S44 7 rfl) h7) ?_
      refine mv_ (v := .int .i64 a19) rfl rfl rfl (go1 (j := 31) (t := 281) rfl (by kernel_rfl) rfl rfl) (Eq.trans (S44 19 rfl) h19) ?_
      refine mv_ (v := .int .i64 a5) rfl rfl rfl (go1 (j := 31) (t := 281) rfl (by kernel_rfl) rfl rfl) (Eq.trans (S44 5 rfl) h5) ?_
      refine bi_ (v := .bool ((a19 == a5))) rfl rfl rfl rfl (go1 (j := 31) (t := 281) rfl (by kernel_rfl) rfl rfl) rfl rfl (i_eql rfl) ?_
      obtain ⟨c58, h⟩ := ifn h
      refine bb_ (v := .bool (false)) rfl rfl rfl rfl (go1 (j := 31) (t := 281) rfl (by kernel_rfl) rfl rfl) rfl rfl (b_neq laws_FnCutsPay.u4 c58) ?_
      refine pk_ (b := false) (v := .bool false) rfl rfl rfl rfl rfl (go0 rfl) rfl rfl ?_
      refine m0 (.bool false) rfl rfl rfl rfl rfl ?_
      obtain ⟨c59, h⟩ := ify h
      refine mv_ (v := .bool true) rfl rfl rfl (go1 (j := 38) (t := 288) rfl (by kernel_rfl) rfl rfl) (Eq.trans rfl (vb c59)) ?_
      refine nt_ (c := false) rfl rfl rfl (go1 (j := 38) (t := 288) rfl (by kernel_rfl) rfl rfl) rfl rfl ?_
      refine pk_ (b := false) (v := .bool false) rfl rfl rfl rfl rfl (go0 rfl) rfl rfl ?_
      refine m0 (.bool false) rfl rfl rfl rfl rfl ?_
      refine mv_ (v := .slice Au48_0 r48_1.length ku48_0) rfl rfl rfl (go1 (j := 42) (t := 292) rfl (by kernel_rfl) rfl rfl) rfl ?_
      refine mv_ (v := .slice A6 l6.length k6) rfl rfl rfl (go1 (j := 42) (t := 292) rfl (by kernel_rfl) rfl rfl) (Eq.trans (S44 6 rfl) h6) ?_
      obtain ⟨r60_0, e60, h⟩ := bind_ h
      refine cl_ Try.func132 (by kernel_rfl) rfl rfl rfl rfl (go1 (j := 42) (t := 292) rfl (by kernel_rfl) rfl rfl) (argc (v := .slice Au48_0 r48_1.length ku48_0) rfl (argc (v := .slice A6 l6.length k6) rfl argn)) ?_
      refine (laws_jSame.calls k Au48_0 ku48_0 r48_1 A6 k6 l6 _ _ (Cu48_0 _ (below_step (below_step (below_step bb49 bb50) bb52) bb56)) qu48_0 (C6 _ (below_step (below_step (below_step (below_step (below_step (below_step (below_step (below_step (below_step (below_step (below_step (below_step bb22 bb25) bb30) bb33) bb35) bb37) bb38) bb44) bb48) bb49) bb50) bb52) bb56)) q6 e60).mono ?_
      rintro e w60 ⟨rfl, d60⟩
      have bb60 := Drawn0.below d60
      refine ⟨_, rfl, ?_⟩
      obtain ⟨c61, h⟩ := ifn h
      refine nt_ (c := false) rfl rfl rfl (go1 (j := 42) (t := 292) rfl (by kernel_rfl) rfl rfl) rfl c61 ?_
      refine pk_ (b := false) (v := .bool false) rfl rfl rfl rfl rfl (go0 rfl) rfl rfl ?_
      refine m0 (.bool false) rfl rfl rfl rfl rfl ?_
      obtain ⟨c62, h⟩ := ify h
      refine mv_ (v := .bool true) rfl rfl rfl (go1 (j := 48) (t := 298) rfl (by kernel_rfl) rfl rfl) (Eq.trans rfl (vb c62)) ?_
      refine nt_ (c := false) rfl rfl rfl (go1 (j := 48) (t := 298) rfl (by kernel_rfl) rfl rfl) rfl rfl ?_
      refine pk_ (b := false) (v := .bool false) rfl rfl rfl rfl rfl (go0 rfl) rfl rfl ?_
      refine m0 (.bool false) rfl rfl rfl rfl rfl ?_
      refine mv_ (v := .bool r49_1) rfl rfl rfl (go1 (j := 52) (t := 302) rfl (by kernel_rfl) rfl rfl) rfl ?_
      refine mv_ (v := .bool b7) rfl rfl rfl (go1 (j := 52) (t := 302) rfl (by kernel_rfl) rfl rfl) (Eq.trans (S44 7 rfl) h7) ?_
      obtain ⟨c63, h⟩ := ifn h
      refine bb_ (v := .bool (false)) rfl rfl rfl rfl (go1 (j := 52) (t := 302) rfl (by kernel_rfl) rfl rfl) rfl rfl (b_neq laws_FnCutsPay.u4 c63) ?_
      refine pk_ (b := false) (v := .bool false) rfl rfl rfl rfl rfl (go0 rfl) rfl rfl ?_
      refine nilt ?_
      refine cF ?_ rfl rfl
      refine wp_skip ?_
      refine then_n ?_
      refine wp_seq ?_
      refine wp_region_lit ?_
      refine m0 (.slice A15 l15.length k15) rfl rfl rfl rfl (Eq.trans (S44 15 rfl) h15) ?_
      obtain ⟨⟨r64_1, r64_2⟩, e64, h⟩ := bind_ h
      refine cl_ Try.func56 (by kernel_rfl) rfl rfl rfl rfl (go0 rfl) (argc (v := .slice A15 l15.length k15) rfl argn) ?_
      refine (impl_RunOf.calls k A15 k15 l15 _ _ _ (C15 _ (below_step (below_step (below_step (below_step (below_step (below_step (below_step (below_step (below_step (below_step (below_step (below_step (below_step bb22 bb25) bb30) bb33) bb35) bb37) bb38) bb44) bb48) bb49) bb50) bb52) bb56) bb60)) q15 e64).mono ?_
      rintro e w64 ⟨rfl, bb64⟩
      refine ⟨_, rfl, ?_⟩
      refine m0 (.tuple #[.int .i64 r64_1, .bool r64_2]) rfl rfl rfl rfl rfl ?_
      refine x0 (.int .i64 r64_1) rfl rfl rfl rfl rfl rfl ?_
      refine x0 (.bool r64_2) rfl rfl rfl rfl rfl rfl ?_
      refine a0 (.int .i64 r64_1) rfl rfl rfl rfl rfl ?_
      refine a0 (.bool r64_2) rfl rfl rfl rfl rfl ?_
      refine nilt ?_
      refine wp_seq ?_
      refine wp_seq ?_
      refine wp_region_lit ?_
      obtain ⟨c65, h⟩ := ify h
      refine m0 (.bool true) rfl rfl rfl rfl (Eq.trans rfl (vb c65)) ?_
      refine nt_ (c := false) rfl rfl rfl (go0 rfl) rfl rfl ?_
      refine m0 (.bool false) rfl rfl rfl rfl rfl ?_
      refine mv_ (v := .int .i64 r64_1) rfl rfl rfl (go1 (j := 2) (t := 314) rfl (by kernel_rfl) rfl rfl) rfl ?_
      refine mv_ (v := .int .i64 a19) rfl rfl rfl (go1 (j := 2) (t := 314) rfl (by kernel_rfl) rfl rfl) (Eq.trans (S44 19 rfl) h19) ?_
      obtain ⟨c66, h⟩ := ifn h
      refine bi_ (v := .bool (false)) rfl rfl rfl rfl (go1 (j := 2) (t := 314) rfl (by kernel_rfl) rfl rfl) rfl rfl (i_neq c66) ?_
      refine pk_ (b := false) (v := .bool false) rfl rfl rfl rfl rfl (go0 rfl) rfl rfl ?_
      refine nilt ?_
      refine cF ?_ rfl rfl
      refine wp_skip ?_
      refine then_n ?_
      refine wp_seq ?_
      refine wp_region_lit ?_
      refine m0 (.bool b7) rfl rfl rfl rfl (Eq.trans (S44 7 rfl) h7) ?_
      refine nilt ?_
      rcases ifs h with ⟨c67, h⟩ | ⟨c67, h⟩
      · refine cT ?_ (Eq.trans rfl (vb c67)) rfl
        refine wp_seq ?_
        refine wp_region_lit ?_
        refine m0 (.int .i64 a5) rfl rfl rfl rfl (Eq.trans (S44 5 rfl) h5) ?_
        obtain ⟨⟨r68_1, r68_2⟩, e68, h⟩ := bind_ h
        refine cl_ Try.func136 (by kernel_rfl) rfl rfl rfl rfl (go0 rfl) (argc (v := .int .i64 a5) rfl argn) ?_
        refine (impl_FewestCuts.calls k a5 _ _ _ e68).mono ?_
        rintro e w68 ⟨rfl, bb68⟩
        refine ⟨_, rfl, ?_⟩
        refine m0 (.tuple #[.int .i64 r68_1, .bool r68_2]) rfl rfl rfl rfl rfl ?_
        refine x0 (.int .i64 r68_1) rfl rfl rfl rfl rfl rfl ?_
        refine x0 (.bool r68_2) rfl rfl rfl rfl rfl rfl ?_
        refine a0 (.int .i64 r68_1) rfl rfl rfl rfl rfl ?_
        refine a0 (.bool r68_2) rfl rfl rfl rfl rfl ?_
        refine nilt ?_
        refine wp_seq ?_
        refine wp_region_lit ?_
        obtain ⟨c69, h⟩ := ify h
        refine m0 (.bool true) rfl rfl rfl rfl (Eq.trans rfl (vb c69)) ?_
        refine nt_ (c := false) rfl rfl rfl (go0 rfl) rfl rfl ?_
        refine m0 (.bool false) rfl rfl rfl rfl rfl ?_
        refine mv_ (v := .int .i64 r68_1) rfl rfl rfl (go1 (j := 2) (t := 327) rfl (by kernel_rfl) rfl rfl) rfl ?_
        refine mv_ (v := .slice A6 l6.length k6) rfl rfl rfl (go1 (j := 2) (t := 327) rfl (by kernel_rfl) rfl rfl) (Eq.trans (S44 6 rfl) h6) ?_
        refine ln_ laws_FnCutsPay.u24 rfl rfl rfl (go1 (j := 2) (t := 327) rfl (by kernel_rfl) rfl rfl) rfl ?_
        obtain ⟨c70, h⟩ := ifn h
        refine bi_ (v := .bool (false)) rfl rfl rfl rfl (go1 (j := 2) (t := 327) rfl (by kernel_rfl) rfl rfl) rfl rfl (i_gtr c70) ?_
        refine pk_ (b := false) (v := .bool false) rfl rfl rfl rfl rfl (go0 rfl) rfl rfl ?_
        refine nilt ?_
        refine cF ?_ rfl rfl
        refine wp_skip ?_
        refine then_n ?_
        exact laws_FnCutsPay.w71 k r ws _ _ A1 k1 l1 (Eq.trans (S44 1 rfl) h1) q1 (On.adv C1 (below_step (below_step (below_step (below_step (below_step (below_step (below_step (below_step (below_step (below_step (below_step (below_step (below_step (below_step (below_step bb22 bb25) bb30) bb33) bb35) bb37) bb38) bb44) bb48) bb49) bb50) bb52) bb56) bb60) bb64) bb68)) a5 (Eq.trans (S44 5 rfl) h5) A6 k6 l6 (Eq.trans (S44 6 rfl) h6) q6 (On.adv C6 (below_step (below_step (below_step (below_step (below_step (below_step (below_step (below_step (below_step (below_step (below_step (below_step (below_step (below_step (below_step bb22 bb25) bb30) bb33) bb35) bb37) bb38) bb44) bb48) bb49) bb50) bb52) bb56) bb60) bb64) bb68)) A27 k27 l27 (Eq.trans (S44 27 rfl) h27) q27 (On.adv C27 (below_step (below_step (below_step (below_step (below_step (below_step (below_step (below_step (below_step (below_step (below_step (below_step (below_step (below_step (below_step bb22 bb25) bb30) bb33) bb35) bb37) bb38) bb44) bb48) bb49) bb50) bb52) bb56) bb60) bb64) bb68)) b28 (Eq.trans (S44 28 rfl) h28) (below_step B0 (below_step (below_step (below_step (below_step (below_step (below_step (below_step (below_step (below_step (below_step (below_step (below_step (below_step (below_step (below_step bb22 bb25) bb30) bb33) bb35) bb37) bb38) bb44) bb48) bb49) bb50) bb52) bb56) bb60) bb64) bb68)) h
      · refine cF ?_ (Eq.trans rfl (vb c67)) rfl
        refine wp_skip ?_
        refine then_n ?_
        exact laws_FnCutsPay.w71 k r ws _ _ A1 k1 l1 (Eq.trans (S44 1 rfl) h1) q1 (On.adv C1 (below_step (below_step (below_step (below_step (below_step (below_step (below_step (below_step (below_step (below_step (below_step (below_step (below_step (below_step bb22 bb25) bb30) bb33) bb35) bb37) bb38) bb44) bb48) bb49) bb50) bb52) bb56) bb60) bb64)) a5 (Eq.trans (S44 5 rfl) h5) A6 k6 l6 (Eq.trans (S44 6 rfl) h6) q6 (On.adv C6 (below_step (below_step (below_step (below_step (below_step (below_step (below_step (below_step (below_step (below_step (below_step (below_step (below_step (below_step bb22 bb25) bb30) bb33) bb35) bb37) bb38) bb44) bb48) bb49) bb50) bb52) bb56) bb60) bb64)) A27 k27 l27 (Eq.trans (S44 27 rfl) h27) q27 (On.adv C27 (below_step (below_step (below_step (below_step (below_step (below_step (below_step (below_step (below_step (below_step (below_step (below_step (below_step (below_step bb22 bb25) bb30) bb33) bb35) bb37) bb38) bb44) bb48) bb49) bb50) bb52) bb56) bb60) bb64)) b28 (Eq.trans (S44 28 rfl) h28) (below_step B0 (below_step (below_step (below_step (below_step (below_step (below_step (below_step (below_step (below_step (below_step (below_step (below_step (below_step (below_step bb22 bb25) bb30) bb33) bb35) bb37) bb38) bb44) bb48) bb49) bb50) bb52) bb56) bb60) bb64)) h
    · refine cF ?_ (Eq.trans rfl (vb c47)) rfl
      refine wp_skip ?_
      refine then_n ?_
      exact laws_FnCutsPay.w71 k r ws _ _ A1 k1 l1 (Eq.trans (S44 1 rfl) h1) q1 (On.adv C1 (below_step (below_step (below_step (below_step (below_step (below_step (below_step bb22 bb25) bb30) bb33) bb35) bb37) bb38) bb44)) a5 (Eq.trans (S44 5 rfl) h5) A6 k6 l6 (Eq.trans (S44 6 rfl) h6) q6 (On.adv C6 (below_step (below_step (below_step (below_step (below_step (below_step (below_step bb22 bb25) bb30) bb33) bb35) bb37) bb38) bb44)) A27 k27 l27 (Eq.trans (S44 27 rfl) h27) q27 (On.adv C27 (below_step (below_step (below_step (below_step (below_step (below_step (below_step bb22 bb25) bb30) bb33) bb35) bb37) bb38) bb44)) b28 (Eq.trans (S44 28 rfl) h28) (below_step B0 (below_step (below_step (below_step (below_step (below_step (below_step (below_step bb22 bb25) bb30) bb33) bb35) bb37) bb38) bb44)) h
def laws_FnCutsPay.p10 (k : Nat) (l1 : List Int) (a5 : Int) (l6 : List Int) (b7 : Bool) (b8 : Bool) (b9 : Bool) (b10 : Bool) (l11 : List Int) (b12 : Bool) (l13 : List Int) (b14 : Bool) (l15 : List Int) (b16 : Bool) : Option Bool := (spec_PiecesOfCuts.f k a5 l6).bind fun t11 => (impl_RunOfCuts.f k a5 l6).bind fun t12 => (spec_RunOfCuts.f k a5 l6).bind fun t13 => (impl_MirrorCuts.f k a5 l6).bind fun t14 => (spec_MirrorCuts.f k a5 l6).bind fun t15 => (impl_RingPieces.f k a5 l6).bind fun t16 => (spec_RingPieces.f k a5 l6).bind fun t17 => laws_FnCutsPay.p18 k l1 a5 l6 b7 b8 b9 b10 l11 b12 l13 b14 l15 b16 t11.1 t11.2 t12.1 t12.2 t13.1 t13.2 t14.1 t14.2 t15.1 t15.2 t16.1 t16.2 t17.1 t17.2
theorem laws_FnCutsPay.w10 (k : Nat) (r : Bool) (ws : World) (f0 : Nat → Value) (w0 : World) (A1 : Option Addr) (k1 : Nat) (l1 : List Int) (h1 : f0 1 = .slice A1 l1.length k1) (q1 : l1.length ≤ k1) (C1 : On w0 fun x => Kd.C (Kd.int .u8) x A1 l1.length l1) (a5 : Int) (h5 : f0 5 = .int .i64 a5) (A6 : Option Addr) (k6 : Nat) (l6 : List Int) (h6 : f0 6 = .slice A6 l6.length k6) (q6 : l6.length ≤ k6) (C6 : On w0 fun x => Kd.C (Kd.int .i64) x A6 l6.length l6) (b7 : Bool) (h7 : f0 7 = .bool b7) (b8 : Bool) (h8 : f0 8 = .bool b8) (b9 : Bool) (h9 : f0 9 = .bool b9) (b10 : Bool) (h10 : f0 10 = .bool b10) (A11 : Option Addr) (k11 : Nat) (l11 : List Int) (h11 : f0 11 = .slice A11 l11.length k11) (q11 : l11.length ≤ k11) (C11 : On w0 fun x => Kd.C (Kd.int .i64) x A11 l11.length l11) (b12 : Bool) (h12 : f0 12 = .bool b12) (A13 : Option Addr) (k13 : Nat) (l13 : List Int) (h13 : f0 13 = .slice A13 l13.length k13) (q13 : l13.length ≤ k13) (C13 : On w0 fun x => Kd.C (Kd.int .i64) x A13 l13.length l13) (b14 : Bool) (h14 : f0 14 = .bool b14) (A15 : Option Addr) (k15 : Nat) (l15 : List Int) (h15 : f0 15 = .slice A15 l15.length k15) (q15 : l15.length ≤ k15) (C15 : On w0 fun x => Kd.C (Kd.int .i64) x A15 l15.length l15) (b16 : Bool) (h16 : f0 16 = .bool b16) (B0 : Below ws.heap.size ws w0) (h : laws_FnCutsPay.p10 k l1 a5 l6 b7 b8 b9 b10 l11 b12 l13 b14 l15 b16 = some r) : Code.wp Try.prog (srn 8 laws_FnCutsPay.B) (laws_FnCutsPay.Q0 ws r) (fr 415 f0) w0 := by
  unfold laws_FnCutsPay.p10 at h
  refine wp_seq ?_
  refine wp_region_lit ?_
  refine m0 (.int .i64 a5) rfl rfl rfl rfl h5 ?_
  refine m0 (.slice A6 l6.length k6) rfl rfl rfl rfl h6 ?_
  obtain ⟨⟨r11_1, r11_2⟩, e11, h⟩ := bind_ h
  refine cl_ Try.func125 (by kernel_rfl) rfl rfl rfl rfl (go0 rfl) (argc (v := .int .i64 a5) rfl (argc (v := .slice A6 l6.length k6) rfl argn)) ?_
  refine (spec_PiecesOfCuts.calls k a5 A6 k6 l6 _ _ _ (C6 _ (Below.refl _ _)) q6 e11).mono ?_
  rintro e w11 ⟨u11_0, rfl, ou11_0, bb11⟩
  obtain ⟨Au11_0, ku11_0, xu11_0, qu11_0, Cu11_0⟩ := R3 ou11_0; subst xu11_0
  refine ⟨_, rfl, ?_⟩
  refine m0 (.tuple #[.slice Au11_0 r11_1.length ku11_0, .bool r11_2]) rfl rfl rfl rfl rfl ?_
  refine x0 (.slice Au11_0 r11_1.length ku11_0) rfl rfl rfl rfl rfl rfl ?_
  refine x0 (.bool r11_2) rfl rfl rfl rfl rfl rfl ?_
  refine a0 (.slice Au11_0 r11_1.length ku11_0) rfl rfl rfl rfl rfl ?_
  refine a0 (.bool r11_2) rfl rfl rfl rfl rfl ?_
  refine nilt ?_
  refine wp_seq ?_
  refine wp_region_lit ?_
  refine m0 (.int .i64 a5) rfl rfl rfl rfl h5 ?_
  refine m0 (.slice A6 l6.length k6) rfl rfl rfl rfl h6 ?_
  obtain ⟨⟨r12_1, r12_2⟩, e12, h⟩ := bind_ h
  refine cl_ Try.func126 (by kernel_rfl) rfl rfl rfl rfl (go0 rfl) (argc (v := .int .i64 a5) rfl (argc (v := .slice A6 l6.length k6) rfl argn)) ?_
  refine (impl_RunOfCuts.calls k a5 A6 k6 l6 _ _ _ (C6 _ bb11) q6 e12).mono ?_
  rintro e w12 ⟨rfl, bb12⟩
  refine ⟨_, rfl, ?_⟩
  refine m0 (.tuple #[.int .i64 r12_1, .bool r12_2]) rfl rfl rfl rfl rfl ?_
  refine x0 (.int .i64 r12_1) rfl rfl rfl rfl rfl rfl ?_
  refine x0 (.bool r12_2) rfl rfl rfl rfl rfl rfl ?_
  refine a0 (.int .i64 r12_1) rfl rfl rfl rfl rfl ?_
  refine a0 (.bool r12_2) rfl rfl rfl rfl rfl ?_
  refine nilt ?_
  refine wp_seq ?_
  refine wp_region_lit ?_
  refine m0 (.int .i64 a5) rfl rfl rfl rfl h5 ?_
  refine m0 (.slice A6 l6.length k6) rfl rfl rfl rfl h6 ?_
  obtain ⟨⟨r13_1, r13_2⟩, e13, h⟩ := bind_ h
  refine cl_ Try.func127 (by kernel_rfl) rfl rfl rfl rfl (go0 rfl) (argc (v := .int .i64 a5) rfl (argc (v := .slice A6 l6.length k6) rfl argn)) ?_
  refine (spec_RunOfCuts.calls k a5 A6 k6 l6 _ _ _ (C6 _ (below_step bb11 bb12)) q6 e13).mono ?_
  rintro e w13 ⟨rfl, bb13⟩
  refine ⟨_, rfl, ?_⟩
  refine m0 (.tuple #[.int .i64 r13_1, .bool r13_2]) rfl rfl rfl rfl rfl ?_
  refine x0 (.int .i64 r13_1) rfl rfl rfl rfl rfl rfl ?_
  refine x0 (.bool r13_2) rfl rfl rfl rfl rfl rfl ?_
  refine a0 (.int .i64 r13_1) rfl rfl rfl rfl rfl ?_
  refine a0 (.bool r13_2) rfl rfl rfl rfl rfl ?_
  refine nilt ?_
  refine wp_seq ?_
  refine wp_region_lit ?_
  refine m0 (.int .i64 a5) rfl rfl rfl rfl h5 ?_
  refine m0 (.slice A6 l6.length k6) rfl rfl rfl rfl h6 ?_
  obtain ⟨⟨r14_1, r14_2⟩, e14, h⟩ := bind_ h
  refine cl_ Try.func128 (by kernel_rfl) rfl rfl rfl rfl (go0 rfl) (argc (v := .int .i64 a5) rfl (argc (v := .slice A6 l6.length k6) rfl argn)) ?_
  refine (impl_MirrorCuts.calls k a5 A6 k6 l6 _ _ _ (C6 _ (below_step (below_step bb11 bb12) bb13)) q6 e14).mono ?_
  rintro e w14 ⟨u14_0, rfl, ou14_0, bb14⟩
  obtain ⟨Au14_0, ku14_0, xu14_0, qu14_0, Cu14_0⟩ := R3 ou14_0; subst xu14_0
  refine ⟨_, rfl, ?_⟩
  refine m0 (.tuple #[.slice Au14_0 r14_1.length ku14_0, .bool r14_2]) rfl rfl rfl rfl rfl ?_
  refine x0 (.slice Au14_0 r14_1.length ku14_0) rfl rfl rfl rfl rfl rfl ?_
  refine x0 (.bool r14_2) rfl rfl rfl rfl rfl rfl ?_
  refine a0 (.slice Au14_0 r14_1.length ku14_0) rfl rfl rfl rfl rfl ?_
  refine a0 (.bool r14_2) rfl rfl rfl rfl rfl ?_
  refine nilt ?_
  refine wp_seq ?_
  refine wp_region_lit ?_
  refine m0 (.int .i64 a5) rfl rfl rfl rfl h5 ?_
  refine m0 (.slice A6 l6.length k6) rfl rfl rfl rfl h6 ?_
  obtain ⟨⟨r15_1, r15_2⟩, e15, h⟩ := bind_ h
  refine cl_ Try.func129 (by kernel_rfl) rfl rfl rfl rfl (go0 rfl) (argc (v := .int .i64 a5) rfl (argc (v := .slice A6 l6.length k6) rfl argn)) ?_
  refine (spec_MirrorCuts.calls k a5 A6 k6 l6 _ _ _ (C6 _ (below_step (below_step (below_step bb11 bb12) bb13) bb14)) q6 e15).mono ?_
  rintro e w15 ⟨u15_0, rfl, ou15_0, bb15⟩
  obtain ⟨Au15_0, ku15_0, xu15_0, qu15_0, Cu15_0⟩ := R3 ou15_0; subst xu15_0
  refine ⟨_, rfl, ?_⟩
  refine m0 (.tuple #[.slice Au15_0 r15_1.length ku15_0, .bool r15_2]) rfl rfl rfl rfl rfl ?_
  refine x0 (.slice Au15_0 r15_1.length ku15_0) rfl rfl rfl rfl rfl rfl ?_
  refine x0 (.bool r15_2) rfl rfl rfl rfl rfl rfl ?_
  refine a0 (.slice Au15_0 r15_1.length ku15_0) rfl rfl rfl rfl rfl ?_
  refine a0 (.bool r15_2) rfl rfl rfl rfl rfl ?_
  refine nilt ?_
  refine wp_seq ?_
  refine wp_region_lit ?_
  refine m0 (.int .i64 a5) rfl rfl rfl rfl h5 ?_
  refine m0 (.slice A6 l6.length k6) rfl rfl rfl rfl h6 ?_
  obtain ⟨⟨r16_1, r16_2⟩, e16, h⟩ := bind_ h
  refine cl_ Try.func130 (by kernel_rfl) rfl rfl rfl rfl (go0 rfl) (argc (v := .int .i64 a5) rfl (argc (v := .slice A6 l6.length k6) rfl argn)) ?_
  refine (impl_RingPieces.calls k a5 A6 k6 l6 _ _ _ (C6 _ (below_step (below_step (below_step (below_step bb11 bb12) bb13) bb14) bb15)) q6 e16).mono ?_
  rintro e w16 ⟨u16_0, rfl, ou16_0, bb16⟩
  obtain ⟨Au16_0, ku16_0, xu16_0, qu16_0, Cu16_0⟩ := R3 ou16_0; subst xu16_0
  refine ⟨_, rfl, ?_⟩
  refine m0 (.tuple #[.slice Au16_0 r16_1.length ku16_0, .bool r16_2]) rfl rfl rfl rfl rfl ?_
  refine x0 (.slice Au16_0 r16_1.length ku16_0) rfl rfl rfl rfl rfl rfl ?_
  refine x0 (.bool r16_2) rfl rfl rfl rfl rfl rfl ?_
  refine a0 (.slice Au16_0 r16_1.length ku16_0) rfl rfl rfl rfl rfl ?_
  refine a0 (.bool r16_2) rfl rfl rfl rfl rfl ?_
  refine nilt ?_
  refine wp_seq ?_
  refine wp_region_lit ?_
  refine m0 (.int .i64 a5) rfl rfl rfl rfl h5 ?_
  refine m0 (.slice A6 l6.length k6) rfl rfl rfl rfl h6 ?_
  obtain ⟨⟨r17_1, r17_2⟩, e17, h⟩ := bind_ h
  refine cl_ Try.func131 (by kernel_rfl) rfl rfl rfl rfl (go0 rfl) (argc (v := .int .i64 a5) rfl (argc (v := .slice A6 l6.length k6) rfl argn)) ?_
  refine (spec_RingPieces.calls k a5 A6 k6 l6 _ _ _ (C6 _ (below_step (below_step (below_step (below_step (below_step bb11 bb12) bb13) bb14) bb15) bb16)) q6 e17).mono ?_
  rintro e w17 ⟨u17_0, rfl, ou17_0, bb17⟩
  obtain ⟨Au17_0, ku17_0, xu17_0, qu17_0, Cu17_0⟩ := R3 ou17_0; subst xu17_0
  refine ⟨_, rfl, ?_⟩
  refine m0 (.tuple #[.slice Au17_0 r17_1.length ku17_0, .bool r17_2]) rfl rfl rfl rfl rfl ?_
  refine x0 (.slice Au17_0 r17_1.length ku17_0) rfl rfl rfl rfl rfl rfl ?_
  refine x0 (.bool r17_2) rfl rfl rfl rfl rfl rfl ?_
  refine a0 (.slice Au17_0 r17_1.length ku17_0) rfl rfl rfl rfl rfl ?_
  refine a0 (.bool r17_2) rfl rfl rfl rfl rfl ?_
  refine nilt ?_
  exact laws_FnCutsPay.w18 k r ws _ _ A1 k1 l1 h1 q1 (On.adv C1 (below_step (below_step (below_step (below_step (below_step (below_step bb11 bb12) bb13) bb14) bb15) bb16) bb17)) a5 h5 A6 k6 l6 h6 q6 (On.adv C6 (below_step (below_step (below_step (below_step (below_step (below_step bb11 bb12) bb13) bb14) bb15) bb16) bb17)) b7 h7 b8 h8 b9 h9 b10 h10 A11 k11 l11 h11 q11 (On.adv C11 (below_step (below_step (below_step (below_step (below_step (below_step bb11 bb12) bb13) bb14) bb15) bb16) bb17)) b12 h12 A13 k13 l13 h13 q13 (On.adv C13 (below_step (below_step (below_step (below_step (below_step (below_step bb11 bb12) bb13) bb14) bb15) bb16) bb17)) b14 h14 A15 k15 l15 h15 q15 (On.adv C15 (below_step (below_step (below_step (below_step (below_step (below_step bb11 bb12) bb13) bb14) bb15) bb16) bb17)) b16 h16 Au11_0 ku11_0 r11_1 rfl qu11_0 (On.adv Cu11_0 (below_step (below_step (below_step (below_step (below_step bb12 bb13) bb14) bb15) bb16) bb17)) r11_2 rfl r12_1 rfl r12_2 rfl r13_1 rfl r13_2 rfl Au14_0 ku14_0 r14_1 rfl qu14_0 (On.adv Cu14_0 (below_step (below_step bb15 bb16) bb17)) r14_2 rfl Au15_0 ku15_0 r15_1 rfl qu15_0 (On.adv Cu15_0 (below_step bb16 bb17)) r15_2 rfl Au16_0 ku16_0 r16_1 rfl qu16_0 (On.adv Cu16_0 bb17) r16_2 rfl Au17_0 ku17_0 r17_1 rfl qu17_0 Cu17_0 r17_2 rfl (below_step B0 (below_step (below_step (below_step (below_step (below_step (below_step bb11 bb12) bb13) bb14) bb15) bb16) bb17)) h
def laws_FnCutsPay.p1 (k : Nat) (l0 : List Int) (l1 : List Int) : Option Bool := (laws_big.f l0 l1).bind fun r2_0 => if r2_0 = true then (some true) else ((spec_DrawDoCutsPay.f k l0).bind fun t4 => (impl_DoCutsPay.f k t4.1 t4.2).bind fun t5 => (spec_DoCutsPay.f k t4.1 t4.2).bind fun t6 => (impl_PartsOfCuts.f k t4.1 t4.2).bind fun t7 => (spec_PartsOfCuts.f k t4.1 t4.2).bind fun t8 => (impl_PiecesOfCuts.f k t4.1 t4.2).bind fun t9 => laws_FnCutsPay.p10 k l1 t4.1 t4.2 t5.1 t5.2 t6.1 t6.2 t7.1 t7.2 t8.1 t8.2 t9.1 t9.2)
theorem laws_FnCutsPay.w1 (k : Nat) (r : Bool) (ws : World) (f0 : Nat → Value) (w0 : World) (A0 : Option Addr) (k0 : Nat) (l0 : List Int) (h0 : f0 0 = .slice A0 l0.length k0) (q0 : l0.length ≤ k0) (C0 : On w0 fun x => Kd.C (Kd.int .u8) x A0 l0.length l0) (A1 : Option Addr) (k1 : Nat) (l1 : List Int) (h1 : f0 1 = .slice A1 l1.length k1) (q1 : l1.length ≤ k1) (C1 : On w0 fun x => Kd.C (Kd.int .u8) x A1 l1.length l1) (B0 : Below ws.heap.size ws w0) (h : laws_FnCutsPay.p1 k l0 l1 = some r) : Code.wp Try.prog laws_FnCutsPay.B (laws_FnCutsPay.Q0 ws r) (fr 415 f0) w0 := by
  unfold laws_FnCutsPay.p1 at h
  refine wp_seq ?_
  refine wp_region_lit ?_
  refine a0 (.bool false) rfl rfl rfl rfl rfl ?_
  refine nilt ?_
  refine wp_seq ?_
  refine wp_seq ?_
  refine wp_region_lit ?_
  refine m0 (.slice A0 l0.length k0) rfl rfl rfl rfl h0 ?_
  refine m0 (.slice A1 l1.length k1) rfl rfl rfl rfl h1 ?_
  obtain ⟨r2_0, e2, h⟩ := bind_ h
  refine cl_ Try.func11 (by kernel_rfl) rfl rfl rfl rfl (go0 rfl) (argc (v := .slice A0 l0.length k0) rfl (argc (v := .slice A1 l1.length k1) rfl argn)) ?_
  refine (laws_big.calls A0 k0 l0 A1 k1 l1 _ _ (C0 _ (Below.refl _ _)) q0 (C1 _ (Below.refl _ _)) q1 e2).mono ?_
  rintro e w2 ⟨rfl, d2⟩
  have bb2 := Drawn0.below d2
  refine ⟨_, rfl, ?_⟩
  refine nilt ?_
  rcases ifs h with ⟨c3, h⟩ | ⟨c3, h⟩
  · refine cT ?_ (Eq.trans rfl (vb c3)) rfl
    refine wp_seq ?_
    refine wp_region_lit ?_
    refine a0 (.bool true) rfl rfl rfl rfl rfl ?_
    refine nilt ?_
    refine wp_ret ?_
    refine then_r ?_
    exact leave rfl rfl rfl ⟨rb (Option.some.inj h), (below_step B0 bb2)⟩
  · refine cF ?_ (Eq.trans rfl (vb c3)) rfl
    refine wp_skip ?_
    refine then_n ?_
    refine wp_seq ?_
    refine wp_region_lit ?_
    refine m0 (.slice A0 l0.length k0) rfl rfl rfl rfl h0 ?_
    obtain ⟨⟨r4_1, r4_2⟩, e4, h⟩ := bind_ h
    refine cl_ Try.func119 (by kernel_rfl) rfl rfl rfl rfl (go0 rfl) (argc (v := .slice A0 l0.length k0) rfl argn) ?_
    refine (spec_DrawDoCutsPay.calls k A0 k0 l0 _ _ _ (C0 _ bb2) q0 e4).mono ?_
    rintro e w4 ⟨u4_1, rfl, ou4_1, bb4⟩
    obtain ⟨Au4_1, ku4_1, xu4_1, qu4_1, Cu4_1⟩ := R3 ou4_1; subst xu4_1
    refine ⟨_, rfl, ?_⟩
    refine m0 (.tuple #[.int .i64 r4_1, .slice Au4_1 r4_2.length ku4_1]) rfl rfl rfl rfl rfl ?_
    refine x0 (.int .i64 r4_1) rfl rfl rfl rfl rfl rfl ?_
    refine x0 (.slice Au4_1 r4_2.length ku4_1) rfl rfl rfl rfl rfl rfl ?_
    refine a0 (.int .i64 r4_1) rfl rfl rfl rfl rfl ?_
    refine a0 (.slice Au4_1 r4_2.length ku4_1) rfl rfl rfl rfl rfl ?_
    refine nilt ?_
    refine wp_seq ?_
    refine wp_region_lit ?_
    refine m0 (.int .i64 r4_1) rfl rfl rfl rfl rfl ?_
    refine m0 (.slice Au4_1 r4_2.length ku4_1) rfl rfl rfl rfl rfl ?_
    obtain ⟨⟨r5_1, r5_2⟩, e5, h⟩ := bind_ h
    refine cl_ Try.func120 (by kernel_rfl) rfl rfl rfl rfl (go0 rfl) (argc (v := .int .i64 r4_1) rfl (argc (v := .slice Au4_1 r4_2.length ku4_1) rfl argn)) ?_
    refine (impl_DoCutsPay.calls k r4_1 Au4_1 ku4_1 r4_2 _ _ _ (Cu4_1 _ (Below.refl _ _)) qu4_1 e5).mono ?_
    rintro e w5 ⟨rfl, bb5⟩
    refine ⟨_, rfl, ?_⟩
    refine m0 (.tuple #[.bool r5_1, .bool r5_2]) rfl rfl rfl rfl rfl ?_
    refine x0 (.bool r5_1) rfl rfl rfl rfl rfl rfl ?_
    refine x0 (.bool r5_2) rfl rfl rfl rfl rfl rfl ?_
    refine a0 (.bool r5_1) rfl rfl rfl rfl rfl ?_
    refine a0 (.bool r5_2) rfl rfl rfl rfl rfl ?_
    refine nilt ?_
    refine wp_seq ?_
    refine wp_region_lit ?_
    refine m0 (.int .i64 r4_1) rfl rfl rfl rfl rfl ?_
    refine m0 (.slice Au4_1 r4_2.length ku4_1) rfl rfl rfl rfl rfl ?_
    obtain ⟨⟨r6_1, r6_2⟩, e6, h⟩ := bind_ h
    refine cl_ Try.func121 (by kernel_rfl) rfl rfl rfl rfl (go0 rfl) (argc (v := .int .i64 r4_1) rfl (argc (v := .slice Au4_1 r4_2.length ku4_1) rfl argn)) ?_
    refine (spec_DoCutsPay.calls k r4_1 Au4_1 ku4_1 r4_2 _ _ _ (Cu4_1 _ bb5) qu4_1 e6).mono ?_
    rintro e w6 ⟨rfl, bb6⟩
    refine ⟨_, rfl, ?_⟩
    refine m0 (.tuple #[.bool r6_1, .bool r6_2]) rfl rfl rfl rfl rfl ?_
    refine x0 (.bool r6_1) rfl rfl rfl rfl rfl rfl ?_
    refine x0 (.bool r6_2) rfl rfl rfl rfl rfl rfl ?_
    refine a0 (.bool r6_1) rfl rfl rfl rfl rfl ?_
    refine a0 (.bool r6_2) rfl rfl rfl rfl rfl ?_
    refine nilt ?_
    refine wp_seq ?_
    refine wp_region_lit ?_
    refine m0 (.int .i64 r4_1) rfl rfl rfl rfl rfl ?_
    refine m0 (.slice Au4_1 r4_2.length ku4_1) rfl rfl rfl rfl rfl ?_
    obtain ⟨⟨r7_1, r7_2⟩, e7, h⟩ := bind_ h
    refine cl_ Try.func122 (by kernel_rfl) rfl rfl rfl rfl (go0 rfl) (argc (v := .int .i64 r4_1) rfl (argc (v := .slice Au4_1 r4_2.length ku4_1) rfl argn)) ?_
    refine (impl_PartsOfCuts.calls k r4_1 Au4_1 ku4_1 r4_2 _ _ _ (Cu4_1 _ (below_step bb5 bb6)) qu4_1 e7).mono ?_
    rintro e w7 ⟨u7_0, rfl, ou7_0, bb7⟩
    obtain ⟨Au7_0, ku7_0, xu7_0, qu7_0, Cu7_0⟩ := R3 ou7_0; subst xu7_0
    refine ⟨_, rfl, ?_⟩
    refine m0 (.tuple #[.slice Au7_0 r7_1.length ku7_0, .bool r7_2]) rfl rfl rfl rfl rfl ?_
    refine x0 (.slice Au7_0 r7_1.length ku7_0) rfl rfl rfl rfl rfl rfl ?_
    refine x0 (.bool r7_2) rfl rfl rfl rfl rfl rfl ?_
    refine a0 (.slice Au7_0 r7_1.length ku7_0) rfl rfl rfl rfl rfl ?_
    refine a0 (.bool r7_2) rfl rfl rfl rfl rfl ?_
    refine nilt ?_
    refine wp_seq ?_
    refine wp_region_lit ?_
    refine m0 (.int .i64 r4_1) rfl rfl rfl rfl rfl ?_
    refine m0 (.slice Au4_1 r4_2.length ku4_1) rfl rfl rfl rfl rfl ?_
    obtain ⟨⟨r8_1, r8_2⟩, e8, h⟩ := bind_ h
    refine cl_ Try.func123 (by kernel_rfl) rfl rfl rfl rfl (go0 rfl) (argc (v := .int .i64 r4_1) rfl (argc (v := .slice Au4_1 r4_2.length ku4_1) rfl argn)) ?_
    refine (spec_PartsOfCuts.calls k r4_1 Au4_1 ku4_1 r4_2 _ _ _ (Cu4_1 _ (below_step (below_step bb5 bb6) bb7)) qu4_1 e8).mono ?_
    rintro e w8 ⟨u8_0, rfl, ou8_0, bb8⟩
    obtain ⟨Au8_0, ku8_0, xu8_0, qu8_0, Cu8_0⟩ := R3 ou8_0; subst xu8_0
    refine ⟨_, rfl, ?_⟩
    refine m0 (.tuple #[.slice Au8_0 r8_1.length ku8_0, .bool r8_2]) rfl rfl rfl rfl rfl ?_
    refine x0 (.slice Au8_0 r8_1.length ku8_0) rfl rfl rfl rfl rfl rfl ?_
    refine x0 (.bool r8_2) rfl rfl rfl rfl rfl rfl ?_
    refine a0 (.slice Au8_0 r8_1.length ku8_0) rfl rfl rfl rfl rfl ?_
    refine a0 (.bool r8_2) rfl rfl rfl rfl rfl ?_
    refine nilt ?_
    refine wp_seq ?_
    refine wp_region_lit ?_
    refine m0 (.int .i64 r4_1) rfl rfl rfl rfl rfl ?_
    refine m0 (.slice Au4_1 r4_2.length ku4_1) rfl rfl rfl rfl rfl ?_
    obtain ⟨⟨r9_1, r9_2⟩, e9, h⟩ := bind_ h
    refine cl_ Try.func124 (by kernel_rfl) rfl rfl rfl rfl (go0 rfl) (argc (v := .int .i64 r4_1) rfl (argc (v := .slice Au4_1 r4_2.length ku4_1) rfl argn)) ?_
    refine (impl_PiecesOfCuts.calls k r4_1 Au4_1 ku4_1 r4_2 _ _ _ (Cu4_1 _ (below_step (below_step (below_step bb5 bb6) bb7) bb8)) qu4_1 e9).mono ?_
    rintro e w9 ⟨u9_0, rfl, ou9_0, bb9⟩
    obtain ⟨Au9_0, ku9_0, xu9_0, qu9_0, Cu9_0⟩ := R3 ou9_0; subst xu9_0
    refine ⟨_, rfl, ?_⟩
    refine m0 (.tuple #[.slice Au9_0 r9_1.length ku9_0, .bool r9_2]) rfl rfl rfl rfl rfl ?_
    refine x0 (.slice Au9_0 r9_1.length ku9_0) rfl rfl rfl rfl rfl rfl ?_
    refine x0 (.bool r9_2) rfl rfl rfl rfl rfl rfl ?_
    refine a0 (.slice Au9_0 r9_1.length ku9_0) rfl rfl rfl rfl rfl ?_
    refine a0 (.bool r9_2) rfl rfl rfl rfl rfl ?_
    refine nilt ?_
    exact laws_FnCutsPay.w10 k r ws _ _ A1 k1 l1 h1 q1 (On.adv C1 (below_step (below_step (below_step (below_step (below_step (below_step bb2 bb4) bb5) bb6) bb7) bb8) bb9)) r4_1 rfl Au4_1 ku4_1 r4_2 rfl qu4_1 (On.adv Cu4_1 (below_step (below_step (below_step (below_step bb5 bb6) bb7) bb8) bb9)) r5_1 rfl r5_2 rfl r6_1 rfl r6_2 rfl Au7_0 ku7_0 r7_1 rfl qu7_0 (On.adv Cu7_0 (below_step bb8 bb9)) r7_2 rfl Au8_0 ku8_0 r8_1 rfl qu8_0 (On.adv Cu8_0 bb9) r8_2 rfl Au9_0 ku9_0 r9_1 rfl qu9_0 Cu9_0 r9_2 rfl (below_step B0 (below_step (below_step (below_step (below_step (below_step (below_step bb2 bb4) bb5) bb6) bb7) bb8) bb9)) h
def laws_FnCutsPay.f (k : Nat) (l0 : List Int) (l1 : List Int) : Option Bool := laws_FnCutsPay.p1 k l0 l1
theorem laws_FnCutsPay.calls (k : Nat) (A0 : Option Addr) (c0 : Nat) (l0 : List Int) (A1 : Option Addr) (c1 : Nat) (l1 : List Int) (r : Bool) (w : World) (hr0 : Kd.C (Kd.int .u8) w A0 l0.length l0) (hc0 : l0.length ≤ c0) (hr1 : Kd.C (Kd.int .u8) w A1 l1.length l1) (hc1 : l1.length ≤ c1) (h : laws_FnCutsPay.f k l0 l1 = some r) :
    Calls Try.prog 8 #[.slice A0 l0.length c0, .slice A1 l1.length c1] w fun e w' => e = .returned (.bool r) ∧ Below w.heap.size w w' := by
  refine enter (n := 415) (args := [.slice A0 l0.length c0, .slice A1 l1.length c1]) Try.func8 rfl rfl (by simp) (fun f0 hf => ?_)
  have B0 := Below.refl w.heap.size w
  have h0 := hf 0 _ rfl
  have C0 := on_C hr0
  have h1 := hf 1 _ rfl
  have C1 := on_C hr1
  exact laws_FnCutsPay.w1 k r w _ _ A0 c0 l0 h0 hc0 C0 A1 c1 l1 h1 hc1 C1 B0 h
/-- What is left to prove of the law: numbers and lists alone. -/
def laws_FnCutsPay.Pure : Prop := ∀ (l0 : List Int) (l1 : List Int), l0.length ≤ maxLen → l0.length * 1 ≤ 140737488351232 → (∀ x ∈ l0, (Lit.int .u8 x).wf = true) → l1.length ≤ maxLen → l1.length * 1 ≤ 140737488351232 → (∀ x ∈ l1, (Lit.int .u8 x).wf = true) → ∃ k, laws_FnCutsPay.f k l0 l1 = some true
theorem laws_FnCutsPay.walk (P : laws_FnCutsPay.Pure) (a0 : Option Addr) (len0 cap0 : Nat) (z0 : List Int) (a1 : Option Addr) (len1 cap1 : Nat) (z1 : List Int) (w : World) (w0 : (a0 = none ∧ len0 = 0 ∧ cap0 = 0 ∧ z0 = []) ∨ ∃ x, a0 = some x ∧ len0 ≤ cap0 ∧ cap0 ≤ maxLen ∧ z0.length = cap0 ∧ (∀ i, i < z0.length → w.cell? (x.add i) = some (.int .u8 (z0.getD i 0))) ∧ ∀ n ∈ z0, (Lit.int .u8 n).wf = true) (y0 : len0 * 1 ≤ 140737488351232) (w1 : (a1 = none ∧ len1 = 0 ∧ cap1 = 0 ∧ z1 = []) ∨ ∃ x, a1 = some x ∧ len1 ≤ cap1 ∧ cap1 ≤ maxLen ∧ z1.length = cap1 ∧ (∀ i, i < z1.length → w.cell? (x.add i) = some (.int .u8 (z1.getD i 0))) ∧ ∀ n ∈ z1, (Lit.int .u8 n).wf = true) (y1 : len1 * 1 ≤ 140737488351232) :
    Calls Try.prog 8 #[.slice a0 len0 cap0, .slice a1 len1 cap1] w fun e w' => e = .returned (.bool true) ∧ Below w.heap.size w w' := by
  obtain ⟨l0, rfl, hr0, hm0, hw0, hc0⟩ := ReadsInt.ofRowC w0
  obtain ⟨l1, rfl, hr1, hm1, hw1, hc1⟩ := ReadsInt.ofRowC w1
  obtain ⟨k, h⟩ := P l0 l1 hm0 y0 hw0 hm1 y1 hw1
  exact laws_FnCutsPay.calls k _ _ l0 _ _ l1 true w (Kd.C_of_reads (d := (0 : Int)) (h1 := fun _ => rfl) hr0) hc0 (Kd.C_of_reads (d := (0 : Int)) (h1 := fun _ => rfl) hr1) hc1 h
end

end Go.Proofs.Ythklbgllgeigdaa.PFnCutsPay
