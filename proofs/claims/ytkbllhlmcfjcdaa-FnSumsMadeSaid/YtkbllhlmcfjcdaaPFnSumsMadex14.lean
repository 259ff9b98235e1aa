-- MADE FOR THIS CLAIM by wip/xp/xprint.py (with the kit's print; some functions' contracts proved by hand)
import Derived.Test.YtkbllhlmcfjcdaaVFnSumsMade
import Derived.Test.YtkbllhlmcfjcdaaPFnSumsMadex0
import Derived.Test.YtkbllhlmcfjcdaaPFnSumsMadex1
import Derived.Test.YtkbllhlmcfjcdaaPFnSumsMadex3
import Derived.Test.YtkbllhlmcfjcdaaPFnSumsMadex4
import Derived.Test.YtkbllhlmcfjcdaaPFnSumsMadex6
import Derived.Test.YtkbllhlmcfjcdaaPFnSumsMadex7
import Derived.Test.YtkbllhlmcfjcdaaPFnSumsMadex9
import Derived.Test.YtkbllhlmcfjcdaaPFnSumsMadex10
import Derived.Test.YtkbllhlmcfjcdaaPFnSumsMadex11
import Derived.Test.YtkbllhlmcfjcdaaPFnSumsMadex12
import Derived.Test.YtkbllhlmcfjcdaaPFnSumsMadex13
set_option maxHeartbeats 8000000
set_option maxRecDepth 100000
namespace Go.Proofs.Ytkbllhlmcfjcdaa.PFnSumsMade
open Go.RowKit Go.Proofs.YtkbllhlmcfjcdaaW.PrintWords Go.Proofs.YtkbllhlmcfjcdaaW.PrintLast Go.Proofs.YtkbllhlmcfjcdaaW.PrintMore Go.Proofs.Ytkbllhlmcfjcdaa.Xmv
attribute [local go_sem] max2_int min2_int max_two min_two max_three min_three max_four min_four   -- for this text's walks alone
set_option linter.unusedVariables false
set_option linter.unusedSimpArgs false

/-! ### laws_FnSumsMade: function 4 -/
section
open Go.Proofs.Ytkbllhlmcfjcdaa.Lw
set_option maxRecDepth 100000
@[reducible] noncomputable def laws_FnSumsMade.B : Code := Try.f4.body.getD .skip
@[reducible] def laws_FnSumsMade.Q0 (ws : World) (r : Bool) : Exit → Act → World → Prop := bodyPost Try.prog Try.f4 (fun e w' => e = .returned (.bool r) ∧ Below ws.heap.size ws w')
theorem laws_FnSumsMade.u3 : Try.prog.underlying 3 = some (.int .i64) := by kernel_rfl
theorem laws_FnSumsMade.u4 : Try.prog.underlying 4 = some (.bool) := by kernel_rfl
theorem laws_FnSumsMade.u24 : Try.prog.underlying 24 = some (.slice (Try.prog.elem 24)) := by kernel_rfl
theorem laws_FnSumsMade.z24 : (Try.prog.info? (Try.prog.elem 24)).map (·.size) = some 1 := by kernel_rfl
@[reducible] def laws_FnSumsMade.Q1 (ws : World) (r : Bool) : Exit → Act → World → Prop := Exit.then (Code.wp Try.prog (srn 18 laws_FnSumsMade.B) (laws_FnSumsMade.Q0 ws r)) (laws_FnSumsMade.Q0 ws r)
@[reducible] def laws_FnSumsMade.Q2 (ws : World) (r : Bool) : Exit → Act → World → Prop := Exit.inBlock 0 (laws_FnSumsMade.Q1 ws r)
@[reducible] def laws_FnSumsMade.Q3 (ws : World) (r : Bool) : Exit → Act → World → Prop := Exit.then (fun a' w' => AtHead Try.prog (lb (bl (srn 2 (ct (srn 1 (sl (srn 17 laws_FnSumsMade.B))))))) (laws_FnSumsMade.Q2 ws r) a' w') (laws_FnSumsMade.Q2 ws r)
def laws_FnSumsMade.p72 (k : Nat) (L66 : List Int → List Int → List Int → Bool → Int → List Int → Int → List Int → Bool → List Int → Int → Int → Option Bool) (l1 : List Int) (l5 : List Int) (l6 : List Int) (b7 : Bool) (a10 : Int) (l18 : List Int) (a22 : Int) (l26 : List Int) (b27 : Bool) (l286 : List Int) (a287 : Int) (a288 : Int) : Option Bool := L66 l1 l5 l6 b7 a10 l18 a22 l26 b27 l286 a287 (wrap64 (a288 + 1))
theorem laws_FnSumsMade.w72 (k : Nat) (r : Bool) (ws : World) (L66 : List Int → List Int → List Int → Bool → Int → List Int → Int → List Int → Bool → List Int → Int → Int → Option Bool) (ih66 : ∀ (f0 : Nat → Value) (w0 : World) (A1 : Option Addr) (k1 : Nat) (l1 : List Int) (h1 : f0 1 = .slice A1 l1.length k1) (q1 : l1.length ≤ k1) (C1 : On w0 fun x => Kd.C (Kd.int .u8) x A1 l1.length l1) (A5 : Option Addr) (k5 : Nat) (l5 : List Int) (h5 : f0 5 = .slice A5 l5.length k5) (q5 : l5.length ≤ k5) (C5 : On w0 fun x => Kd.C (Kd.int .i64) x A5 l5.length l5) (A6 : Option Addr) (k6 : Nat) (l6 : List Int) (h6 : f0 6 = .slice A6 l6.length k6) (q6 : l6.length ≤ k6) (C6 : On w0 fun x => Kd.C (Kd.int .i64) x A6 l6.length l6) (b7 : Bool) (h7 : f0 7 = .bool b7) (a10 : Int) (h10 : f0 10 = .int .i64 a10) (A18 : Option Addr) (k18 : Nat) (l18 : List Int) (h18 : f0 18 = .slice A18 l18.length k18) (q18 : l18.length ≤ k18) (C18 : On w0 fun x => Kd.C (Kd.int .i64) x A18 l18.length l18) (a22 : Int) (h22 : f0 22 = .int .i64 a22) (A26 : Option Addr) (k26 : Nat) (l26 : List Int) (h26 : f0 26 = .slice A26 l26.length k26) (q26 : l26.length ≤ k26) (C26 : On w0 fun x => Kd.C (Kd.int .i64) x A26 l26.length l26) (b27 : Bool) (h27 : f0 27 = .bool b27) (A286 : Option Addr) (k286 : Nat) (l286 : List Int) (h286 : f0 286 = .slice A286 l286.length k286) (q286 : l286.length ≤ k286) (C286 : On w0 fun x => Kd.C (Kd.int .i64) x A286 l286.length l286) (a287 : Int) (h287 : f0 287 = .int .i64 a287) (a288 : Int) (h288 : f0 288 = .int .i64 a288) (B0 : Below ws.heap.size ws w0) (h : L66 l1 l5 l6 b7 a10 l18 a22 l26 b27 l286 a287 a288 = some r), AtHead Try.prog (lb (bl (srn 2 (ct (srn 1 (sl (srn 17 laws_FnSumsMade.B))))))) (laws_FnSumsMade.Q2 ws r) (fr 533 f0) w0) (f0 : Nat → Value) (w0 : World) (A1 : Option Addr) (k1 : Nat) (l1 : List Int) (h1 : f0 1 = .slice A1 l1.length k1) (q1 : l1.length ≤ k1) (C1 : On w0 fun x => Kd.C (Kd.int .u8) x A1 l1.length l1) (A5 : Option Addr) (k5 : Nat) (l5 : List Int) (h5 : f0 5 = .slice A5 l5.length k5) (q5 : l5.length ≤ k5) (C5 : On w0 fun x => Kd.C (Kd.int .i64) x A5 l5.length l5) (A6 : Option Addr) (k6 : Nat) (l6 : List Int) (h6 : f0 6 = .slice A6 l6.length k6) (q6 : l6.length ≤ k6) (C6 : On w0 fun x => Kd.C (Kd.int .i64) x A6 l6.length l6) (b7 : Bool) (h7 : f0 7 = .bool b7) (a10 : Int) (h10 : f0 10 = .int .i64 a10) (A18 : Option Addr) (k18 : Nat) (l18 : List Int) (h18 : f0 18 = .slice A18 l18.length k18) (q18 : l18.length ≤ k18) (C18 : On w0 fun x => Kd.C (Kd.int .i64) x A18 l18.length l18) (a22 : Int) (h22 : f0 22 = .int .i64 a22) (A26 : Option Addr) (k26 : Nat) (l26 : List Int) (h26 : f0 26 = .slice A26 l26.length k26) (q26 : l26.length ≤ k26) (C26 : On w0 fun x => Kd.C (Kd.int .i64) x A26 l26.length l26) (b27 : Bool) (h27 : f0 27 = .bool b27) (A286 : Option Addr) (k286 : Nat) (l286 : List Int) (h286 : f0 286 = .slice A286 l286.length k286) (q286 : l286.length ≤ k286) (C286 : On w0 fun x => Kd.C (Kd.int .i64) x A286 l286.length l286) (a287 : Int) (h287 : f0 287 = .int .i64 a287) (a288 : Int) (h288 : f0 288 = .int .i64 a288) (B0 : Below ws.heap.size ws w0) (h : laws_FnSumsMade.p72 k L66 l1 l5 l6 b7 a10 l18 a22 l26 b27 l286 a287 a288 = some r) : Code.wp Try.prog (srn 3 (lb (bl (srn 2 (ct (srn 1 (sl (srn 17 laws_FnSumsMade.B)))))))) (laws_FnSumsMade.Q3 ws r) (fr 533 f0) w0 := by
 unfold laws_FnSumsMade.p72 at h
 refine wp_region_lit ?_
 refine bi_ (v := .int .i64 (wrap64 (a288 + 1))) rfl rfl rfl rfl (go0 rfl) h288 rfl (i_add rfl) ?_
 refine m0 (.int .i64 (wrap64 (a288 + 1))) rfl rfl rfl rfl rfl ?_
 refine nilt ?_
 exact ih66 _ _ A1 k1 l1 h1 q1 C1 A5 k5 l5 h5 q5 C5 A6 k6 l6 h6 q6 C6 b7 h7 a10 h10 A18 k18 l18 h18 q18 C18 a22 h22 A26 k26 l26 h26 q26 C26 b27 h27 A286 k286 l286 h286 q286 C286 a287 h287 (wrap64 (a288 + 1)) rfl B0 h
def laws_FnSumsMade.p134 (k : Nat) (l32 : List Int) (a50 : Int) (b51 : Bool) : Option Bool := if b51 = true then ((impl_CanMake.f k l32 a50).bind fun t136 => (if t136.2 = true then (some t136.1) else (some false)).bind fun d137 => some d137) else (some true)
theorem laws_FnSumsMade.w134 (k : Nat) (r : Bool) (ws : World) (f0 : Nat → Value) (w0 : World) (A32 : Option Addr) (k32 : Nat) (l32 : List Int) (h32 : f0 32 = .slice A32 l32.length k32) (q32 : l32.length ≤ k32) (C32 : On w0 fun x => Kd.C (Kd.int .i64) x A32 l32.length l32) (a50 : Int) (h50 : f0 50 = .int .i64 a50) (b51 : Bool) (h51 : f0 51 = .bool b51) (B0 : Below ws.heap.size ws w0) (h : laws_FnSumsMade.p134 k l32 a50 b51 = some r) : Code.wp Try.prog (srn 33 laws_FnSumsMade.B) (laws_FnSumsMade.Q0 ws r) (fr 533 f0) w0 := by
 unfold laws_FnSumsMade.p134 at h
 refine wp_seq ?_
 refine wp_seq ?_
 refine wp_region_lit ?_
 refine m0 (.bool b51) rfl rfl rfl rfl h51 ?_
 refine nilt ?_
 rcases ifs h with ⟨c135, h⟩ | ⟨c135, h⟩
 · refine cT ?_ (Eq.trans rfl (vb c135)) rfl
   refine wp_seq ?_
   refine wp_region_lit ?_
   refine m0 (.slice A32 l32.length k32) rfl rfl rfl rfl h32 ?_
   refine m0 (.int .i64 a50) rfl rfl rfl rfl h50 ?_
   obtain ⟨⟨r136_1, r136_2⟩, e136, h⟩ := bind_ h
   refine cl_ Try.func43 (by kernel_rfl) rfl rfl rfl rfl (go0 rfl) (argc (v := .slice A32 l32.length k32) rfl (argc (v := .int .i64 a50) rfl argn)) ?_
   refine (impl_CanMake.calls k A32 k32 l32 a50 _ _ _ (C32 _ (Below.refl _ _)) q32 e136).mono ?_
   rintro e w136 ⟨rfl, bb136⟩
   refine ⟨_, rfl, ?_⟩
   refine m0 (.tuple #[.bool r136_1, .bool r136_2]) rfl rfl rfl rfl rfl ?_
   refine x0 (.bool r136_1) rfl rfl rfl rfl rfl rfl ?_
   refine x0 (.bool r136_2) rfl rfl rfl rfl rfl rfl ?_
   refine a0 (.bool r136_1) rfl rfl rfl rfl rfl ?_
   refine a0 (.bool r136_2) rfl rfl rfl rfl rfl ?_
   refine nilt ?_
   refine wp_seq ?_
   refine wp_region_lit ?_
   refine m0 (.bool r136_2) rfl rfl rfl rfl rfl ?_
   refine m0 (.bool r136_2) rfl rfl rfl rfl rfl ?_
   obtain ⟨d137, e137, h⟩ := bind_ h
   refine cut_ 2 (fun f g w' => Same 58 f g ∧ g 532 = .bool d137 ∧ Below w136.heap.size w136 w') ?_ ?_
   · clear h; have h := e137; clear e137
     rcases ifs h with ⟨c138, h⟩ | ⟨c138, h⟩
     · refine mv_ (v := .bool r136_1) rfl rfl rfl (go1 (j := 1) (t := 530) rfl (by kernel_rfl) rfl (Eq.trans rfl (vb c138))) rfl ?_
       refine pk_ (b := true) (v := .bool r136_1) rfl rfl rfl rfl rfl (go0 rfl) (Eq.trans rfl (vb c138)) rfl ?_
       refine wpList_nil ?_
       exact then_n ⟨_, rfl, (Same.put (Same.put (Same.refl _ _) rfl) rfl), (Eq.trans rfl (vb (Option.some.inj h))), (Below.refl _ _)⟩
     refine skp (no1 (j := 1) (t := 530) rfl (by kernel_rfl) rfl (Eq.trans rfl (vb c138)) rfl) rfl ?_
     refine pk_ (b := false) (v := .bool false) rfl rfl rfl rfl rfl (go0 rfl) (Eq.trans rfl (vb c138)) rfl ?_
     refine wpList_nil ?_
     exact then_n ⟨_, rfl, (Same.put (Same.put (Same.refl _ _) rfl) rfl), (Eq.trans rfl (vb (Option.some.inj h))), (Below.refl _ _)⟩
   clear e137; rintro g137 w137 ⟨S137, x137_532, bb137⟩
   refine a0 (.bool d137) rfl rfl rfl rfl x137_532 ?_
   refine nilt ?_
   refine wp_ret ?_
   refine then_r ?_
   exact leave rfl rfl rfl ⟨rb (Option.some.inj h), (below_step B0 (below_step bb136 bb137))⟩
 refine cF ?_ (Eq.trans rfl (vb c135)) rfl
 refine wp_skip ?_
 refine then_n ?_
 refine wp_seq ?_
 refine wp_region_lit ?_
 refine a0 (.bool true) rfl rfl rfl rfl rfl ?_
 refine nilt ?_
 refine wp_ret ?_
 exact leave rfl rfl rfl ⟨rb (Option.some.inj h), B0⟩
def laws_FnSumsMade.p122 (k : Nat) (l32 : List Int) (a33 : Int) (l34 : List Int) (b35 : Bool) (a42 : Int) (a46 : Int) (a50 : Int) (b51 : Bool) : Option Bool := if b35 = true then ((laws_tOf.f k l32 l34).bind fun r124_0 => if (r124_0 != a33) = true then none else (laws_tRises.f k l34).bind fun r126_0 => if (!r126_0) = true then none else if (decide ((l34.length : Int) < a46)) = true then none else if (a50 != a33) = true then none else (laws_tSum.f k l32).bind fun r130_0 => (impl_WaysOf.f k l32 (wrap64 (r130_0 - a33))).bind fun t131 => if t131.2 = true then (if (t131.1 != a42) = true then none else laws_FnSumsMade.p134 k l32 a50 b51) else none) else (laws_FnSumsMade.p134 k l32 a50 b51)
theorem laws_FnSumsMade.w122 (k : Nat) (r : Bool) (ws : World) (f0 : Nat → Value) (w0 : World) (A32 : Option Addr) (k32 : Nat) (l32 : List Int) (h32 : f0 32 = .slice A32 l32.length k32) (q32 : l32.length ≤ k32) (C32 : On w0 fun x => Kd.C (Kd.int .i64) x A32 l32.length l32) (a33 : Int) (h33 : f0 33 = .int .i64 a33) (A34 : Option Addr) (k34 : Nat) (l34 : List Int) (h34 : f0 34 = .slice A34 l34.length k34) (q34 : l34.length ≤ k34) (C34 : On w0 fun x => Kd.C (Kd.int .i64) x A34 l34.length l34) (b35 : Bool) (h35 : f0 35 = .bool b35) (a42 : Int) (h42 : f0 42 = .int .i64 a42) (a46 : Int) (h46 : f0 46 = .int .i64 a46) (a50 : Int) (h50 : f0 50 = .int .i64 a50) (b51 : Bool) (h51 : f0 51 = .bool b51) (B0 : Below ws.heap.size ws w0) (h : laws_FnSumsMade.p122 k l32 a33 l34 b35 a42 a46 a50 b51 = some r) : Code.wp Try.prog (srn 32 laws_FnSumsMade.B) (laws_FnSumsMade.Q0 ws r) (fr 533 f0) w0 := by
 unfold laws_FnSumsMade.p122 at h
 refine wp_seq ?_
 refine wp_seq ?_
 refine wp_region_lit ?_
 refine m0 (.bool b35) rfl rfl rfl rfl h35 ?_
 refine nilt ?_
 rcases ifs h with ⟨c123, h⟩ | ⟨c123, h⟩
 · refine cT ?_ (Eq.trans rfl (vb c123)) rfl
   refine wp_seq ?_
   refine wp_seq ?_
   refine wp_region_lit ?_
   refine m0 (.slice A32 l32.length k32) rfl rfl rfl rfl h32 ?_
   refine m0 (.slice A34 l34.length k34) rfl rfl rfl rfl h34 ?_
   obtain ⟨r124_0, e124, h⟩ := bind_ h
   refine cl_ Try.func39 (by kernel_rfl) rfl rfl rfl rfl (go0 rfl) (argc (v := .slice A32 l32.length k32) rfl (argc (v := .slice A34 l34.length k34) rfl argn)) ?_
   refine (laws_tOf.calls k A32 k32 l32 A34 k34 l34 _ _ (C32 _ (Below.refl _ _)) q32 (C34 _ (Below.refl _ _)) q34 e124).mono ?_
   rintro e w124 ⟨rfl, d124⟩
   have bb124 := Drawn0.below d124
   refine ⟨_, rfl, ?_⟩
   refine m0 (.int .i64 a33) rfl rfl rfl rfl h33 ?_
   obtain ⟨c125, h⟩ := ifn h
   refine bi_ (v := .bool (false)) rfl rfl rfl rfl (go0 rfl) rfl rfl (i_neq c125) ?_
   refine m0 (.bool false) rfl rfl rfl rfl rfl ?_
   refine mv_ (v := .slice A34 l34.length k34) rfl rfl rfl (go1 (j := 5) (t := 490) rfl (by kernel_rfl) rfl rfl) h34 ?_
   obtain ⟨r126_0, e126, h⟩ := bind_ h
   refine cl_ Try.func23 (by kernel_rfl) rfl rfl rfl rfl (go1 (j := 5) (t := 490) rfl (by kernel_rfl) rfl rfl) (argc (v := .slice A34 l34.length k34) rfl argn) ?_
   refine (laws_tRises.calls k A34 k34 l34 _ _ (C34 _ bb124) q34 e126).mono ?_
   rintro e w126 ⟨rfl, d126⟩
   have bb126 := Drawn0.below d126
   refine ⟨_, rfl, ?_⟩
   obtain ⟨c127, h⟩ := ifn h
   refine nt_ (c := false) rfl rfl rfl (go1 (j := 5) (t := 490) rfl (by kernel_rfl) rfl rfl) rfl c127 ?_
   refine pk_ (b := false) (v := .bool false) rfl rfl rfl rfl rfl (go0 rfl) rfl rfl ?_
   refine m0 (.bool false) rfl rfl rfl rfl rfl ?_
   refine mv_ (v := .int .i64 a46) rfl rfl rfl (go1 (j := 10) (t := 495) rfl (by kernel_rfl) rfl rfl) h46 ?_
   refine mv_ (v := .slice A34 l34.length k34) rfl rfl rfl (go1 (j := 10) (t := 495) rfl (by kernel_rfl) rfl rfl) h34 ?_
   refine ln_ laws_FnSumsMade.u24 rfl rfl rfl (go1 (j := 10) (t := 495) rfl (by kernel_rfl) rfl rfl) rfl ?_
   obtain ⟨c128, h⟩ := ifn h
   refine bi_ (v := .bool (false)) rfl rfl rfl rfl (go1 (j := 10) (t := 495) rfl (by kernel_rfl) rfl rfl) rfl rfl (i_gtr c128) ?_
   refine pk_ (b := false) (v := .bool false) rfl rfl rfl rfl rfl (go0 rfl) rfl rfl ?_
   refine m0 (.bool false) rfl rfl rfl rfl rfl ?_
   refine mv_ (v := .int .i64 a50) rfl rfl rfl (go1 (j := 16) (t := 501) rfl (by kernel_rfl) rfl rfl) h50 ?_
   refine mv_ (v := .int .i64 a33) rfl rfl rfl (go1 (j := 16) (t := 501) rfl (by kernel_rfl) rfl rfl) h33 ?_
   obtain ⟨c129, h⟩ := ifn h
   refine bi_ (v := .bool (false)) rfl rfl rfl rfl (go1 (j := 16) (t := 501) rfl (by kernel_rfl) rfl rfl) rfl rfl (i_neq c129) ?_
   refine pk_ (b := false) (v := .bool false) rfl rfl rfl rfl rfl (go0 rfl) rfl rfl ?_
   refine nilt ?_
   refine cF ?_ rfl rfl
   refine wp_skip ?_
   refine then_n ?_
   refine wp_seq ?_
   refine wp_region_lit ?_
   refine m0 (.slice A32 l32.length k32) rfl rfl rfl rfl h32 ?_
   refine m0 (.slice A32 l32.length k32) rfl rfl rfl rfl h32 ?_
   obtain ⟨r130_0, e130, h⟩ := bind_ h
   refine cl_ Try.func13 (by kernel_rfl) rfl rfl rfl rfl (go0 rfl) (argc (v := .slice A32 l32.length k32) rfl argn) ?_
   refine (laws_tSum.calls k A32 k32 l32 _ _ (C32 _ (below_step bb124 bb126)) q32 e130).mono ?_
   rintro e w130 ⟨rfl, d130⟩
   have bb130 := Drawn0.below d130
   refine ⟨_, rfl, ?_⟩
   refine m0 (.int .i64 a33) rfl rfl rfl rfl h33 ?_
   refine bi_ (v := .int .i64 (wrap64 (r130_0 - a33))) rfl rfl rfl rfl (go0 rfl) rfl rfl (i_sub rfl) ?_
   obtain ⟨⟨r131_1, r131_2⟩, e131, h⟩ := bind_ h
   refine cl_ Try.func45 (by kernel_rfl) rfl rfl rfl rfl (go0 rfl) (argc (v := .slice A32 l32.length k32) rfl (argc (v := .int .i64 (wrap64 (r130_0 - a33))) rfl argn)) ?_
   refine (impl_WaysOf.calls k A32 k32 l32 (wrap64 (r130_0 - a33)) _ _ _ (C32 _ (below_step (below_step bb124 bb126) bb130)) q32 e131).mono ?_
   rintro e w131 ⟨rfl, bb131⟩
   refine ⟨_, rfl, ?_⟩
   refine m0 (.tuple #[.int .i64 r131_1, .bool r131_2]) rfl rfl rfl rfl rfl ?_
   refine x0 (.int .i64 r131_1) rfl rfl rfl rfl rfl rfl ?_
   refine x0 (.bool r131_2) rfl rfl rfl rfl rfl rfl ?_
   refine a0 (.int .i64 r131_1) rfl rfl rfl rfl rfl ?_
   refine a0 (.bool r131_2) rfl rfl rfl rfl rfl ?_
   refine nilt ?_
   refine wp_seq ?_
   refine wp_region_lit ?_
   obtain ⟨c132, h⟩ := ify h
   refine m0 (.bool true) rfl rfl rfl rfl (Eq.trans rfl (vb c132)) ?_
   refine nt_ (c := false) rfl rfl rfl (go0 rfl) rfl rfl ?_
   refine m0 (.bool false) rfl rfl rfl rfl rfl ?_
   refine mv_ (v := .int .i64 r131_1) rfl rfl rfl (go1 (j := 2) (t := 517) rfl (by kernel_rfl) rfl rfl) rfl ?_
   refine mv_ (v := .int .i64 a42) rfl rfl rfl (go1 (j := 2) (t := 517) rfl (by kernel_rfl) rfl rfl) h42 ?_
   obtain ⟨c133, h⟩ := ifn h
   refine bi_ (v := .bool (false)) rfl rfl rfl rfl (go1 (j := 2) (t := 517) rfl (by kernel_rfl) rfl rfl) rfl rfl (i_neq c133) ?_
   refine pk_ (b := false) (v := .bool false) rfl rfl rfl rfl rfl (go0 rfl) rfl rfl ?_
   refine nilt ?_
   refine cF ?_ rfl rfl
   refine wp_skip ?_
   refine then_n ?_
   exact laws_FnSumsMade.w134 k r ws _ _ A32 k32 l32 h32 q32 (On.adv C32 (below_step (below_step (below_step bb124 bb126) bb130) bb131)) a50 h50 b51 h51 (below_step B0 (below_step (below_step (below_step bb124 bb126) bb130) bb131)) h
 refine cF ?_ (Eq.trans rfl (vb c123)) rfl
 refine wp_skip ?_
 refine then_n ?_
 exact laws_FnSumsMade.w134 k r ws _ _ A32 k32 l32 h32 q32 C32 a50 h50 b51 h51 B0 h
def laws_FnSumsMade.p96 (k : Nat) (l32 : List Int) (a33 : Int) (l34 : List Int) (b35 : Bool) (l36 : List Int) (b37 : Bool) (b38 : Bool) (b39 : Bool) (b40 : Bool) (b41 : Bool) : Option Bool := (impl_WaysOf.f k l32 a33).bind fun t97 => (spec_WaysOf.f k l32 a33).bind fun t98 => (impl_FewestFor.f k l32 a33).bind fun t99 => (spec_FewestFor.f k l32 a33).bind fun t100 => (impl_ClosestSum.f k l32 a33).bind fun t101 => (spec_ClosestSum.f k l32 a33).bind fun t102 => if (b35 != b37) = true then none else (laws_tSame.f k l34 l36).bind fun r104_0 => if (!r104_0) = true then none else if (b39 != b41) = true then none else if (b38 != b40) = true then none else if (t97.2 != t98.2) = true then none else if (t97.1 != t98.1) = true then none else if (t99.2 != t100.2) = true then none else if (t99.1 != t100.1) = true then none else if (t101.2 != t102.2) = true then none else if (t101.1 != t102.1) = true then none else if (t97.2 != b39) = true then none else if (t101.2 != b39) = true then none else (if b39 = true then (some b38) else (some false)).bind fun d116 => if (b35 != d116) = true then none else if (t99.2 != b35) = true then none else (if b39 = true then (some (b38 != (decide (0 < t97.1)))) else (some false)).bind fun d120 => if d120 = true then none else laws_FnSumsMade.p122 k l32 a33 l34 b35 t97.1 t99.1 t101.1 t101.2
theorem laws_FnSumsMade.w96 (k : Nat) (r : Bool) (ws : World) (f0 : Nat → Value) (w0 : World) (A32 : Option Addr) (k32 : Nat) (l32 : List Int) (h32 : f0 32 = .slice A32 l32.length k32) (q32 : l32.length ≤ k32) (C32 : On w0 fun x => Kd.C (Kd.int .i64) x A32 l32.length l32) (a33 : Int) (h33 : f0 33 = .int .i64 a33) (A34 : Option Addr) (k34 : Nat) (l34 : List Int) (h34 : f0 34 = .slice A34 l34.length k34) (q34 : l34.length ≤ k34) (C34 : On w0 fun x => Kd.C (Kd.int .i64) x A34 l34.length l34) (b35 : Bool) (h35 : f0 35 = .bool b35) (A36 : Option Addr) (k36 : Nat) (l36 : List Int) (h36 : f0 36 = .slice A36 l36.length k36) (q36 : l36.length ≤ k36) (C36 : On w0 fun x => Kd.C (Kd.int .i64) x A36 l36.length l36) (b37 : Bool) (h37 : f0 37 = .bool b37) (b38 : Bool) (h38 : f0 38 = .bool b38) (b39 : Bool) (h39 : f0 39 = .bool b39) (b40 : Bool) (h40 : f0 40 = .bool b40) (b41 : Bool) (h41 : f0 41 = .bool b41) (B0 : Below ws.heap.size ws w0) (h : laws_FnSumsMade.p96 k l32 a33 l34 b35 l36 b37 b38 b39 b40 b41 = some r) : Code.wp Try.prog (srn 25 laws_FnSumsMade.B) (laws_FnSumsMade.Q0 ws r) (fr 533 f0) w0 := by
 unfold laws_FnSumsMade.p96 at h
 refine wp_seq ?_
 refine wp_region_lit ?_
 refine m0 (.slice A32 l32.length k32) rfl rfl rfl rfl h32 ?_
 refine m0 (.int .i64 a33) rfl rfl rfl rfl h33 ?_
 obtain ⟨⟨r97_1, r97_2⟩, e97, h⟩ := bind_ h
 refine cl_ Try.func45 (by kernel_rfl) rfl rfl rfl rfl (go0 rfl) (argc (v := .slice A32 l32.length k32) rfl (argc (v := .int .i64 a33) rfl argn)) ?_
 refine (impl_WaysOf.calls k A32 k32 l32 a33 _ _ _ (C32 _ (Below.refl _ _)) q32 e97).mono ?_
 rintro e w97 ⟨rfl, bb97⟩
 refine ⟨_, rfl, ?_⟩
 refine m0 (.tuple #[.int .i64 r97_1, .bool r97_2]) rfl rfl rfl rfl rfl ?_
 refine x0 (.int .i64 r97_1) rfl rfl rfl rfl rfl rfl ?_
 refine x0 (.bool r97_2) rfl rfl rfl rfl rfl rfl ?_
 refine a0 (.int .i64 r97_1) rfl rfl rfl rfl rfl ?_
 refine a0 (.bool r97_2) rfl rfl rfl rfl rfl ?_
 refine nilt ?_
 refine wp_seq ?_
 refine wp_region_lit ?_
 refine m0 (.slice A32 l32.length k32) rfl rfl rfl rfl h32 ?_
 refine m0 (.int .i64 a33) rfl rfl rfl rfl h33 ?_
 obtain ⟨⟨r98_1, r98_2⟩, e98, h⟩ := bind_ h
 refine cl_ Try.func46 (by kernel_rfl) rfl rfl rfl rfl (go0 rfl) (argc (v := .slice A32 l32.length k32) rfl (argc (v := .int .i64 a33) rfl argn)) ?_
 refine (spec_WaysOf.calls k A32 k32 l32 a33 _ _ _ (C32 _ bb97) q32 e98).mono ?_
 rintro e w98 ⟨rfl, bb98⟩
 refine ⟨_, rfl, ?_⟩
 refine m0 (.tuple #[.int .i64 r98_1, .bool r98_2]) rfl rfl rfl rfl rfl ?_
 refine x0 (.int .i64 r98_1) rfl rfl rfl rfl rfl rfl ?_
 refine x0 (.bool r98_2) rfl rfl rfl rfl rfl rfl ?_
 refine a0 (.int .i64 r98_1) rfl rfl rfl rfl rfl ?_
 refine a0 (.bool r98_2) rfl rfl rfl rfl rfl ?_
 refine nilt ?_
 refine wp_seq ?_
 refine wp_region_lit ?_
 refine m0 (.slice A32 l32.length k32) rfl rfl rfl rfl h32 ?_
 refine m0 (.int .i64 a33) rfl rfl rfl rfl h33 ?_
 obtain ⟨⟨r99_1, r99_2⟩, e99, h⟩ := bind_ h
 refine cl_ Try.func47 (by kernel_rfl) rfl rfl rfl rfl (go0 rfl) (argc (v := .slice A32 l32.length k32) rfl (argc (v := .int .i64 a33) rfl argn)) ?_
 refine (impl_FewestFor.calls k A32 k32 l32 a33 _ _ _ (C32 _ (below_step bb97 bb98)) q32 e99).mono ?_
 rintro e w99 ⟨rfl, bb99⟩
 refine ⟨_, rfl, ?_⟩
 refine m0 (.tuple #[.int .i64 r99_1, .bool r99_2]) rfl rfl rfl rfl rfl ?_
 refine x0 (.int .i64 r99_1) rfl rfl rfl rfl rfl rfl ?_
 refine x0 (.bool r99_2) rfl rfl rfl rfl rfl rfl ?_
 refine a0 (.int .i64 r99_1) rfl rfl rfl rfl rfl ?_
 refine a0 (.bool r99_2) rfl rfl rfl rfl rfl ?_
 refine nilt ?_
 refine wp_seq ?_
 refine wp_region_lit ?_
 refine m0 (.slice A32 l32.length k32) rfl rfl rfl rfl h32 ?_
 refine m0 (.int .i64 a33) rfl rfl rfl rfl h33 ?_
 obtain ⟨⟨r100_1, r100_2⟩, e100, h⟩ := bind_ h
 refine cl_ Try.func48 (by kernel_rfl) rfl rfl rfl rfl (go0 rfl) (argc (v := .slice A32 l32.length k32) rfl (argc (v := .int .i64 a33) rfl argn)) ?_
 refine (spec_FewestFor.calls k A32 k32 l32 a33 _ _ _ (C32 _ (below_step (below_step bb97 bb98) bb99)) q32 e100).mono ?_
 rintro e w100 ⟨rfl, bb100⟩
 refine ⟨_, rfl, ?_⟩
 refine m0 (.tuple #[.int .i64 r100_1, .bool r100_2]) rfl rfl rfl rfl rfl ?_
 refine x0 (.int .i64 r100_1) rfl rfl rfl rfl rfl rfl ?_
 refine x0 (.bool r100_2) rfl rfl rfl rfl rfl rfl ?_
 refine a0 (.int .i64 r100_1) rfl rfl rfl rfl rfl ?_
 refine a0 (.bool r100_2) rfl rfl rfl rfl rfl ?_
 refine nilt ?_
 refine wp_seq ?_
 refine wp_region_lit ?_
 refine m0 (.slice A32 l32.length k32) rfl rfl rfl rfl h32 ?_
 refine m0 (.int .i64 a33) rfl rfl rfl rfl h33 ?_
 obtain ⟨⟨r101_1, r101_2⟩, e101, h⟩ := bind_ h
 refine cl_ Try.func49 (by kernel_rfl) rfl rfl rfl rfl (go0 rfl) (argc (v := .slice A32 l32.length k32) rfl (argc (v := .int .i64 a33) rfl argn)) ?_
 refine (impl_ClosestSum.calls k A32 k32 l32 a33 _ _ _ (C32 _ (below_step (below_step (below_step bb97 bb98) bb99) bb100)) q32 e101).mono ?_
 rintro e w101 ⟨rfl, bb101⟩
 refine ⟨_, rfl, ?_⟩
 refine m0 (.tuple #[.int .i64 r101_1, .bool r101_2]) rfl rfl rfl rfl rfl ?_
 refine x0 (.int .i64 r101_1) rfl rfl rfl rfl rfl rfl ?_
 refine x0 (.bool r101_2) rfl rfl rfl rfl rfl rfl ?_
 refine a0 (.int .i64 r101_1) rfl rfl rfl rfl rfl ?_
 refine a0 (.bool r101_2) rfl rfl rfl rfl rfl ?_
 refine nilt ?_
 refine wp_seq ?_
 refine wp_region_lit ?_
 refine m0 (.slice A32 l32.length k32) rfl rfl rfl rfl h32 ?_
 refine m0 (.int .i64 a33) rfl rfl rfl rfl h33 ?_
 obtain ⟨⟨r102_1, r102_2⟩, e102, h⟩ := bind_ h
 refine cl_ Try.func50 (by kernel_rfl) rfl rfl rfl rfl (go0 rfl) (argc (v := .slice A32 l32.length k32) rfl (argc (v := .int .i64 a33) rfl argn)) ?_
 refine (spec_ClosestSum.calls k A32 k32 l32 a33 _ _ _ (C32 _ (below_step (below_step (below_step (below_step bb97 bb98) bb99) bb100) bb101)) q32 e102).mono ?_
 rintro e w102 ⟨rfl, bb102⟩
 refine ⟨_, rfl, ?_⟩
 refine m0 (.tuple #[.int .i64 r102_1, .bool r102_2]) rfl rfl rfl rfl rfl ?_
 refine x0 (.int .i64 r102_1) rfl rfl rfl rfl rfl rfl ?_
 refine x0 (.bool r102_2) rfl rfl rfl rfl rfl rfl ?_
 refine a0 (.int .i64 r102_1) rfl rfl rfl rfl rfl ?_
 refine a0 (.bool r102_2) rfl rfl rfl rfl rfl ?_
 refine nilt ?_
 refine wp_seq ?_
 refine wp_seq ?_
 refine wp_region_lit ?_
 refine m0 (.bool b35) rfl rfl rfl rfl h35 ?_
 refine m0 (.bool b37) rfl rfl rfl rfl h37 ?_
 obtain ⟨c103, h⟩ := ifn h
 refine bb_ (v := .bool (false)) rfl rfl rfl rfl (go0 rfl) rfl rfl (b_neq laws_FnSumsMade.u4 c103) ?_
 refine m0 (.bool false) rfl rfl rfl rfl rfl ?_
 refine mv_ (v := .slice A34 l34.length k34) rfl rfl rfl (go1 (j := 3) (t := 406) rfl (by kernel_rfl) rfl rfl) h34 ?_
 refine mv_ (v := .slice A36 l36.length k36) rfl rfl rfl (go1 (j := 3) (t := 406) rfl (by kernel_rfl) rfl rfl) h36 ?_
 obtain ⟨r104_0, e104, h⟩ := bind_ h
 refine cl_ Try.func11 (by kernel_rfl) rfl rfl rfl rfl (go1 (j := 3) (t := 406) rfl (by kernel_rfl) rfl rfl) (argc (v := .slice A34 l34.length k34) rfl (argc (v := .slice A36 l36.length k36) rfl argn)) ?_
 refine (laws_tSame.calls k A34 k34 l34 A36 k36 l36 _ _ (C34 _ (below_step (below_step (below_step (below_step (below_step bb97 bb98) bb99) bb100) bb101) bb102)) q34 (C36 _ (below_step (below_step (below_step (below_step (below_step bb97 bb98) bb99) bb100) bb101) bb102)) q36 e104).mono ?_
 rintro e w104 ⟨rfl, d104⟩
 have bb104 := Drawn0.below d104
 refine ⟨_, rfl, ?_⟩
 obtain ⟨c105, h⟩ := ifn h
 refine nt_ (c := false) rfl rfl rfl (go1 (j := 3) (t := 406) rfl (by kernel_rfl) rfl rfl) rfl c105 ?_
 refine pk_ (b := false) (v := .bool false) rfl rfl rfl rfl rfl (go0 rfl) rfl rfl ?_
 refine m0 (.bool false) rfl rfl rfl rfl rfl ?_
 refine mv_ (v := .bool b39) rfl rfl rfl (go1 (j := 9) (t := 412) rfl (by kernel_rfl) rfl rfl) h39 ?_
 refine mv_ (v := .bool b41) rfl rfl rfl (go1 (j := 9) (t := 412) rfl (by kernel_rfl) rfl rfl) h41 ?_
 obtain ⟨c106, h⟩ := ifn h
 refine bb_ (v := .bool (false)) rfl rfl rfl rfl (go1 (j := 9) (t := 412) rfl (by kernel_rfl) rfl rfl) rfl rfl (b_neq laws_FnSumsMade.u4 c106) ?_
 refine pk_ (b := false) (v := .bool false) rfl rfl rfl rfl rfl (go0 rfl) rfl rfl ?_
 refine m0 (.bool false) rfl rfl rfl rfl rfl ?_
 refine mv_ (v := .bool b38) rfl rfl rfl (go1 (j := 14) (t := 417) rfl (by kernel_rfl) rfl rfl) h38 ?_
 refine mv_ (v := .bool b40) rfl rfl rfl (go1 (j := 14) (t := 417) rfl (by kernel_rfl) rfl rfl) h40 ?_
 obtain ⟨c107, h⟩ := ifn h
 refine bb_ (v := .bool (false)) rfl rfl rfl rfl (go1 (j := 14) (t := 417) rfl (by kernel_rfl) rfl rfl) rfl rfl (b_neq laws_FnSumsMade.u4 c107) ?_
 refine pk_ (b := false) (v := .bool false) rfl rfl rfl rfl rfl (go0 rfl) rfl rfl ?_
 refine m0 (.bool false) rfl rfl rfl rfl rfl ?_
 refine mv_ (v := .bool r97_2) rfl rfl rfl (go1 (j := 19) (t := 422) rfl (by kernel_rfl) rfl rfl) rfl ?_
 refine mv_ (v := .bool r98_2) rfl rfl rfl (go1 (j := 19) (t := 422) rfl (by kernel_rfl) rfl rfl) rfl ?_
 obtain ⟨c108, h⟩ := ifn h
 refine bb_ (v := .bool (false)) rfl rfl rfl rfl (go1 (j := 19) (t := 422) rfl (by kernel_rfl) rfl rfl) rfl rfl (b_neq laws_FnSumsMade.u4 c108) ?_
 refine pk_ (b := false) (v := .bool false) rfl rfl rfl rfl rfl (go0 rfl) rfl rfl ?_
 refine m0 (.bool false) rfl rfl rfl rfl rfl ?_
 refine mv_ (v := .int .i64 r97_1) rfl rfl rfl (go1 (j := 24) (t := 427) rfl (by kernel_rfl) rfl rfl) rfl ?_
 refine mv_ (v := .int .i64 r98_1) rfl rfl rfl (go1 (j := 24) (t := 427) rfl (by kernel_rfl) rfl rfl) rfl ?_
 obtain ⟨c109, h⟩ := ifn h
 refine bi_ (v := .bool (false)) rfl rfl rfl rfl (go1 (j := 24) (t := 427) rfl (by kernel_rfl) rfl rfl) rfl rfl (i_neq c109) ?_
 refine pk_ (b := false) (v := .bool false) rfl rfl rfl rfl rfl (go0 rfl) rfl rfl ?_
 refine m0 (.bool false) rfl rfl rfl rfl rfl ?_
 refine mv_ (v := .bool r99_2) rfl rfl rfl (go1 (j := 29) (t := 432) rfl (by kernel_rfl) rfl rfl) rfl ?_
 refine mv_ (v := .bool r100_2) rfl rfl rfl (go1 (j := 29) (t := 432) rfl (by kernel_rfl) rfl rfl) rfl ?_
 obtain ⟨c110, h⟩ := ifn h
 refine bb_ (v := .bool (false)) rfl rfl rfl rfl (go1 (j := 29) (t := 432) rfl (by kernel_rfl) rfl rfl) rfl rfl (b_neq laws_FnSumsMade.u4 c110) ?_
 refine pk_ (b := false) (v := .bool false) rfl rfl rfl rfl rfl (go0 rfl) rfl rfl ?_
 refine m0 (.bool false) rfl rfl rfl rfl rfl ?_
 refine mv_ (v := .int .i64 r99_1) rfl rfl rfl (go1 (j := 34) (t := 437) rfl (by kernel_rfl) rfl rfl) rfl ?_
 refine mv_ (v := .int .i64 r100_1) rfl rfl rfl (go1 (j := 34) (t := 437) rfl (by kernel_rfl) rfl rfl) rfl ?_
 obtain ⟨c111, h⟩ := ifn h
 refine bi_ (v := .bool (false)) rfl rfl rfl rfl (go1 (j := 34) (t := 437) rfl (by kernel_rfl) rfl rfl) rfl rfl (i_neq c111) ?_
 refine pk_ (b := false) (v := .bool false) rfl rfl rfl rfl rfl (go0 rfl) rfl rfl ?_
 refine m0 (.bool false) rfl rfl rfl rfl rfl ?_
 refine mv_ (v := .bool r101_2) rfl rfl rfl (go1 (j := 39) (t := 442) rfl (by kernel_rfl) rfl rfl) rfl ?_
 refine mv_ (v := .bool r102_2) rfl rfl rfl (go1 (j := 39) (t := 442) rfl (by kernel_rfl) rfl rfl) rfl ?_
 obtain ⟨c112, h⟩ := ifn h
 refine bb_ (v := .bool (false)) rfl rfl rfl rfl (go1 (j := 39) (t := 442) rfl (by kernel_rfl) rfl rfl) rfl rfl (b_neq laws_FnSumsMade.u4 c112) ?_
 refine pk_ (b := false) (v := .bool false) rfl rfl rfl rfl rfl (go0 rfl) rfl rfl ?_
 refine m0 (.bool false) rfl rfl rfl rfl rfl ?_
 refine mv_ (v := .int .i64 r101_1) rfl rfl rfl (go1 (j := 44) (t := 447) rfl (by kernel_rfl) rfl rfl) rfl ?_
 refine mv_ (v := .int .i64 r102_1) rfl rfl rfl (go1 (j := 44) (t := 447) rfl (by kernel_rfl) rfl rfl) rfl ?_
 obtain ⟨c113, h⟩ := ifn h
 refine bi_ (v := .bool (false)) rfl rfl rfl rfl (go1 (j := 44) (t := 447) rfl (by kernel_rfl) rfl rfl) rfl rfl (i_neq c113) ?_
 refine pk_ (b := false) (v := .bool false) rfl rfl rfl rfl rfl (go0 rfl) rfl rfl ?_
 refine m0 (.bool false) rfl rfl rfl rfl rfl ?_
 refine mv_ (v := .bool r97_2) rfl rfl rfl (go1 (j := 49) (t := 452) rfl (by kernel_rfl) rfl rfl) rfl ?_
 refine mv_ (v := .bool b39) rfl rfl rfl (go1 (j := 49) (t := 452) rfl (by kernel_rfl) rfl rfl) h39 ?_
 obtain ⟨c114, h⟩ := ifn h
 refine bb_ (v := .bool (false)) rfl rfl rfl rfl (go1 (j := 49) (t := 452) rfl (by kernel_rfl) rfl rfl) rfl rfl (b_neq laws_FnSumsMade.u4 c114) ?_
 refine pk_ (b := false) (v := .bool false) rfl rfl rfl rfl rfl (go0 rfl) rfl rfl ?_
 refine m0 (.bool false) rfl rfl rfl rfl rfl ?_
 refine mv_ (v := .bool r101_2) rfl rfl rfl (go1 (j := 54) (t := 457) rfl (by kernel_rfl) rfl rfl) rfl ?_
 refine mv_ (v := .bool b39) rfl rfl rfl (go1 (j := 54) (t := 457) rfl (by kernel_rfl) rfl rfl) h39 ?_
 obtain ⟨c115, h⟩ := ifn h
 refine bb_ (v := .bool (false)) rfl rfl rfl rfl (go1 (j := 54) (t := 457) rfl (by kernel_rfl) rfl rfl) rfl rfl (b_neq laws_FnSumsMade.u4 c115) ?_
 refine pk_ (b := false) (v := .bool false) rfl rfl rfl rfl rfl (go0 rfl) rfl rfl ?_
 refine m0 (.bool false) rfl rfl rfl rfl rfl ?_
 refine mv_ (v := .bool b35) rfl rfl rfl (go1 (j := 59) (t := 462) rfl (by kernel_rfl) rfl rfl) h35 ?_
 refine mv_ (v := .bool b39) rfl rfl rfl (go1 (j := 59) (t := 462) rfl (by kernel_rfl) rfl rfl) h39 ?_
 refine mv_ (v := .bool b39) rfl rfl rfl (go1 (j := 59) (t := 462) rfl (by kernel_rfl) rfl rfl) rfl ?_
 obtain ⟨d116, e116, h⟩ := bind_ h
 refine cut_ 2 (fun f g w' => Same 58 f g ∧ g 467 = .bool d116 ∧ g 462 = .bool false ∧ g 463 = .bool b35 ∧ Below w104.heap.size w104 w') ?_ ?_
 · clear h; have h := e116; clear e116
   rcases ifs h with ⟨c117, h⟩ | ⟨c117, h⟩
   · refine mv_ (v := .bool b38) rfl rfl rfl (go1 (j := 62) (t := 465) rfl (by kernel_rfl) rfl (Eq.trans rfl (vb c117))) h38 ?_
     refine pk_ (b := true) (v := .bool b38) rfl rfl rfl rfl rfl (go1 (j := 59) (t := 462) rfl (by kernel_rfl) rfl rfl) (Eq.trans rfl (vb c117)) rfl ?_
     refine wpList_nil ?_
     exact then_n ⟨_, rfl, (Same.put (Same.put (Same.refl _ _) rfl) rfl), (Eq.trans rfl (vb (Option.some.inj h))), rfl, rfl, (Below.refl _ _)⟩
   refine skp (no1 (j := 62) (t := 465) rfl (by kernel_rfl) rfl (Eq.trans rfl (vb c117)) rfl) rfl ?_
   refine pk_ (b := false) (v := .bool false) rfl rfl rfl rfl rfl (go1 (j := 59) (t := 462) rfl (by kernel_rfl) rfl rfl) (Eq.trans rfl (vb c117)) rfl ?_
   refine wpList_nil ?_
   exact then_n ⟨_, rfl, (Same.put (Same.put (Same.refl _ _) rfl) rfl), (Eq.trans rfl (vb (Option.some.inj h))), rfl, rfl, (Below.refl _ _)⟩
 clear e116; rintro g116 w116 ⟨S116, x116_467, x116_462, x116_463, bb116⟩
 obtain ⟨c118, h⟩ := ifn h
 refine bb_ (v := .bool (false)) rfl rfl rfl rfl (go1 (j := 59) (t := 462) rfl (by kernel_rfl) rfl x116_462) x116_463 x116_467 (b_neq laws_FnSumsMade.u4 c118) ?_
 refine pk_ (b := false) (v := .bool false) rfl rfl rfl rfl rfl (go0 rfl) x116_462 rfl ?_
 refine m0 (.bool false) rfl rfl rfl rfl rfl ?_
 refine mv_ (v := .bool r99_2) rfl rfl rfl (go1 (j := 67) (t := 470) rfl (by kernel_rfl) rfl rfl) (Eq.trans (S116 47 rfl) rfl) ?_
 refine mv_ (v := .bool b35) rfl rfl rfl (go1 (j := 67) (t := 470) rfl (by kernel_rfl) rfl rfl) (Eq.trans (S116 35 rfl) h35) ?_
 obtain ⟨c119, h⟩ := ifn h
 refine bb_ (v := .bool (false)) rfl rfl rfl rfl (go1 (j := 67) (t := 470) rfl (by kernel_rfl) rfl rfl) rfl rfl (b_neq laws_FnSumsMade.u4 c119) ?_
 refine pk_ (b := false) (v := .bool false) rfl rfl rfl rfl rfl (go0 rfl) rfl rfl ?_
 refine m0 (.bool false) rfl rfl rfl rfl rfl ?_
 refine mv_ (v := .bool b39) rfl rfl rfl (go1 (j := 72) (t := 475) rfl (by kernel_rfl) rfl rfl) (Eq.trans (S116 39 rfl) h39) ?_
 refine mv_ (v := .bool b39) rfl rfl rfl (go1 (j := 72) (t := 475) rfl (by kernel_rfl) rfl rfl) rfl ?_
 obtain ⟨d120, e120, h⟩ := bind_ h
 replace h := ifn h
 obtain ⟨y120, h⟩ := h
 subst y120
 refine cut_ 5 (fun f g w' => Same 58 f g ∧ g 482 = .bool false ∧ g 475 = .bool false ∧ Below w116.heap.size w116 w') ?_ ?_
 · clear h; have h := e120; clear e120
   rcases ifs h with ⟨c121, h⟩ | ⟨c121, h⟩
   · refine mv_ (v := .bool b38) rfl rfl rfl (go1 (j := 74) (t := 477) rfl (by kernel_rfl) rfl (Eq.trans rfl (vb c121))) (Eq.trans (S116 38 rfl) h38) ?_
     refine mv_ (v := .int .i64 r97_1) rfl rfl rfl (go1 (j := 74) (t := 477) rfl (by kernel_rfl) rfl (Eq.trans rfl (vb c121))) (Eq.trans (S116 42 rfl) rfl) ?_
     refine bi_ (v := .bool (decide (0 < r97_1))) rfl rfl rfl rfl (go1 (j := 74) (t := 477) rfl (by kernel_rfl) rfl (Eq.trans rfl (vb c121))) rfl rfl (i_gtr rfl) ?_
     refine bb_ (v := .bool ((b38 != (decide (0 < r97_1))))) rfl rfl rfl rfl (go1 (j := 74) (t := 477) rfl (by kernel_rfl) rfl (Eq.trans rfl (vb c121))) rfl rfl (b_neq laws_FnSumsMade.u4 rfl) ?_
     refine pk_ (b := true) (v := .bool (b38 != (decide (0 < r97_1)))) rfl rfl rfl rfl rfl (go1 (j := 72) (t := 475) rfl (by kernel_rfl) rfl rfl) (Eq.trans rfl (vb c121)) rfl ?_
     refine wpList_nil ?_
     exact then_n ⟨_, rfl, (Same.put (Same.put (Same.put (Same.put (Same.put (Same.refl _ _) rfl) rfl) rfl) rfl) rfl), (Eq.trans rfl (vb (Option.some.inj h))), rfl, (Below.refl _ _)⟩
   refine skp (no1 (j := 74) (t := 477) rfl (by kernel_rfl) rfl (Eq.trans rfl (vb c121)) rfl) rfl ?_
   refine skp (no1 (j := 74) (t := 477) rfl (by kernel_rfl) rfl (Eq.trans rfl (vb c121)) rfl) rfl ?_
   refine skp (no1 (j := 74) (t := 477) rfl (by kernel_rfl) rfl (Eq.trans rfl (vb c121)) rfl) rfl ?_
   refine skp (no1 (j := 74) (t := 477) rfl (by kernel_rfl) rfl (Eq.trans rfl (vb c121)) rfl) rfl ?_
   refine pk_ (b := false) (v := .bool false) rfl rfl rfl rfl rfl (go1 (j := 72) (t := 475) rfl (by kernel_rfl) rfl rfl) (Eq.trans rfl (vb c121)) rfl ?_
   refine wpList_nil ?_
   exact then_n ⟨_, rfl, (Same.put (Same.put (Same.put (Same.put (Same.put (Same.refl _ _) rfl) rfl) rfl) rfl) rfl), (Eq.trans rfl (vb (Option.some.inj h))), rfl, (Below.refl _ _)⟩
 clear e120; rintro g120 w120 ⟨S120, x120_482, x120_475, bb120⟩
 refine pk_ (b := false) (v := .bool false) rfl rfl rfl rfl rfl (go0 rfl) x120_475 x120_482 ?_
 refine nilt ?_
 refine cF ?_ rfl rfl
 refine wp_skip ?_
 refine then_n ?_
 exact laws_FnSumsMade.w122 k r ws _ _ A32 k32 l32 (Eq.trans (S120 32 rfl) (Eq.trans (S116 32 rfl) h32)) q32 (On.adv C32 (below_step (below_step (below_step (below_step (below_step (below_step (below_step (below_step bb97 bb98) bb99) bb100) bb101) bb102) bb104) bb116) bb120)) a33 (Eq.trans (S120 33 rfl) (Eq.trans (S116 33 rfl) h33)) A34 k34 l34 (Eq.trans (S120 34 rfl) (Eq.trans (S116 34 rfl) h34)) q34 (On.adv C34 (below_step (below_step (below_step (below_step (below_step (below_step (below_step (below_step bb97 bb98) bb99) bb100) bb101) bb102) bb104) bb116) bb120)) b35 (Eq.trans (S120 35 rfl) (Eq.trans (S116 35 rfl) h35)) r97_1 (Eq.trans (S120 42 rfl) (Eq.trans (S116 42 rfl) rfl)) r99_1 (Eq.trans (S120 46 rfl) (Eq.trans (S116 46 rfl) rfl)) r101_1 (Eq.trans (S120 50 rfl) (Eq.trans (S116 50 rfl) rfl)) r101_2 (Eq.trans (S120 51 rfl) (Eq.trans (S116 51 rfl) rfl)) (below_step B0 (below_step (below_step (below_step (below_step (below_step (below_step (below_step (below_step bb97 bb98) bb99) bb100) bb101) bb102) bb104) bb116) bb120)) h
def laws_FnSumsMade.p84 (k : Nat) (l1 : List Int) (l5 : List Int) (a22 : Int) (l26 : List Int) (b27 : Bool) : Option Bool := (if b27 = true then ((laws_tOf.f k l5 l26).bind fun r87_0 => (if ((wrap64 (2 * r87_0)) != a22) = true then (some true) else ((laws_tRises.f k l26).bind fun r90_0 => some (!r90_0))).bind fun d88 => some d88) else (some false)).bind fun d85 => if d85 = true then none else (spec_DrawFirstWay.f k l1).bind fun t91 => (impl_FirstWay.f k t91.1 t91.2).bind fun t92 => (spec_FirstWay.f k t91.1 t91.2).bind fun t93 => (impl_CanMake.f k t91.1 t91.2).bind fun t94 => (spec_CanMake.f k t91.1 t91.2).bind fun t95 => laws_FnSumsMade.p96 k t91.1 t91.2 t92.1 t92.2 t93.1 t93.2 t94.1 t94.2 t95.1 t95.2
theorem laws_FnSumsMade.w84 (k : Nat) (r : Bool) (ws : World) (f0 : Nat → Value) (w0 : World) (A1 : Option Addr) (k1 : Nat) (l1 : List Int) (h1 : f0 1 = .slice A1 l1.length k1) (q1 : l1.length ≤ k1) (C1 : On w0 fun x => Kd.C (Kd.int .u8) x A1 l1.length l1) (A5 : Option Addr) (k5 : Nat) (l5 : List Int) (h5 : f0 5 = .slice A5 l5.length k5) (q5 : l5.length ≤ k5) (C5 : On w0 fun x => Kd.C (Kd.int .i64) x A5 l5.length l5) (a22 : Int) (h22 : f0 22 = .int .i64 a22) (A26 : Option Addr) (k26 : Nat) (l26 : List Int) (h26 : f0 26 = .slice A26 l26.length k26) (q26 : l26.length ≤ k26) (C26 : On w0 fun x => Kd.C (Kd.int .i64) x A26 l26.length l26) (b27 : Bool) (h27 : f0 27 = .bool b27) (B0 : Below ws.heap.size ws w0) (h : laws_FnSumsMade.p84 k l1 l5 a22 l26 b27 = some r) : Code.wp Try.prog (srn 19 laws_FnSumsMade.B) (laws_FnSumsMade.Q0 ws r) (fr 533 f0) w0 := by
 unfold laws_FnSumsMade.p84 at h
 refine wp_seq ?_
 refine wp_seq ?_
 refine wp_region_lit ?_
 refine m0 (.bool b27) rfl rfl rfl rfl h27 ?_
 refine m0 (.bool b27) rfl rfl rfl rfl rfl ?_
 obtain ⟨d85, e85, h⟩ := bind_ h
 replace h := ifn h
 obtain ⟨y85, h⟩ := h
 subst y85
 refine cut_ 12 (fun f g w' => Same 58 f g ∧ g 337 = .bool false ∧ Below w0.heap.size w0 w') ?_ ?_
 · clear h; have h := e85; clear e85
   rcases ifs h with ⟨c86, h⟩ | ⟨c86, h⟩
   · refine mv_ (v := .slice A5 l5.length k5) rfl rfl rfl (go1 (j := 1) (t := 325) rfl (by kernel_rfl) rfl (Eq.trans rfl (vb c86))) h5 ?_
     refine mv_ (v := .slice A26 l26.length k26) rfl rfl rfl (go1 (j := 1) (t := 325) rfl (by kernel_rfl) rfl (Eq.trans rfl (vb c86))) h26 ?_
     obtain ⟨r87_0, e87, h⟩ := bind_ h
     refine cl_ Try.func39 (by kernel_rfl) rfl rfl rfl rfl (go1 (j := 1) (t := 325) rfl (by kernel_rfl) rfl (Eq.trans rfl (vb c86))) (argc (v := .slice A5 l5.length k5) rfl (argc (v := .slice A26 l26.length k26) rfl argn)) ?_
     refine (laws_tOf.calls k A5 k5 l5 A26 k26 l26 _ _ (C5 _ (Below.refl _ _)) q5 (C26 _ (Below.refl _ _)) q26 e87).mono ?_
     rintro e w87 ⟨rfl, d87⟩
     have bb87 := Drawn0.below d87
     refine ⟨_, rfl, ?_⟩
     refine bi_ (v := .int .i64 (wrap64 (2 * r87_0))) rfl rfl rfl rfl (go1 (j := 1) (t := 325) rfl (by kernel_rfl) rfl (Eq.trans rfl (vb c86))) rfl rfl (i_mul rfl) ?_
     refine mv_ (v := .int .i64 a22) rfl rfl rfl (go1 (j := 1) (t := 325) rfl (by kernel_rfl) rfl (Eq.trans rfl (vb c86))) h22 ?_
     refine bi_ (v := .bool (((wrap64 (2 * r87_0)) != a22))) rfl rfl rfl rfl (go1 (j := 1) (t := 325) rfl (by kernel_rfl) rfl (Eq.trans rfl (vb c86))) rfl rfl (i_neq rfl) ?_
     refine mv_ (v := .bool ((wrap64 (2 * r87_0)) != a22)) rfl rfl rfl (go1 (j := 1) (t := 325) rfl (by kernel_rfl) rfl (Eq.trans rfl (vb c86))) rfl ?_
     obtain ⟨d88, e88, h⟩ := bind_ h
     refine cut_ 4 (fun f g w' => Same 58 f g ∧ g 336 = .bool d88 ∧ g 325 = .bool true ∧ Below w87.heap.size w87 w') ?_ ?_
     · clear h; have h := e88; clear e88
       rcases ifs h with ⟨c89, h⟩ | ⟨c89, h⟩
       · refine skp (no1 (j := 8) (t := 332) rfl (by kernel_rfl) rfl (Eq.trans rfl (vb c89)) rfl) rfl ?_
         refine skp (no1 (j := 8) (t := 332) rfl (by kernel_rfl) rfl (Eq.trans rfl (vb c89)) rfl) rfl ?_
         refine skp (no1 (j := 8) (t := 332) rfl (by kernel_rfl) rfl (Eq.trans rfl (vb c89)) rfl) rfl ?_
         refine pk_ (b := true) (v := .bool true) rfl rfl rfl rfl rfl (go1 (j := 1) (t := 325) rfl (by kernel_rfl) rfl (Eq.trans rfl (vb c86))) (Eq.trans rfl (vb c89)) rfl ?_
         refine wpList_nil ?_
         exact then_n ⟨_, rfl, (Same.put (Same.put (Same.put (Same.put (Same.refl _ _) rfl) rfl) rfl) rfl), (Eq.trans rfl (vb (Option.some.inj h))), (Eq.trans rfl (vb c86)), (Below.refl _ _)⟩
       refine mv_ (v := .slice A26 l26.length k26) rfl rfl rfl (go1 (j := 8) (t := 332) rfl (by kernel_rfl) rfl (Eq.trans rfl (vb c89))) h26 ?_
       obtain ⟨r90_0, e90, h⟩ := bind_ h
       refine cl_ Try.func23 (by kernel_rfl) rfl rfl rfl rfl (go1 (j := 8) (t := 332) rfl (by kernel_rfl) rfl (Eq.trans rfl (vb c89))) (argc (v := .slice A26 l26.length k26) rfl argn) ?_
       refine (laws_tRises.calls k A26 k26 l26 _ _ (C26 _ bb87) q26 e90).mono ?_
       rintro e w90 ⟨rfl, d90⟩
       have bb90 := Drawn0.below d90
       refine ⟨_, rfl, ?_⟩
       refine nt_ (c := !r90_0) rfl rfl rfl (go1 (j := 8) (t := 332) rfl (by kernel_rfl) rfl (Eq.trans rfl (vb c89))) rfl rfl ?_
       refine pk_ (b := false) (v := .bool (!r90_0)) rfl rfl rfl rfl rfl (go1 (j := 1) (t := 325) rfl (by kernel_rfl) rfl (Eq.trans rfl (vb c86))) (Eq.trans rfl (vb c89)) rfl ?_
       refine wpList_nil ?_
       exact then_n ⟨_, rfl, (Same.put (Same.put (Same.put (Same.put (Same.refl _ _) rfl) rfl) rfl) rfl), (Eq.trans rfl (vb (Option.some.inj h))), (Eq.trans rfl (vb c86)), bb90⟩
     clear e88; rintro g88 w88 ⟨S88, x88_336, x88_325, bb88⟩
     refine pk_ (b := true) (v := .bool d88) rfl rfl rfl rfl rfl (go0 rfl) x88_325 x88_336 ?_
     refine wpList_nil ?_
     exact then_n ⟨_, rfl, (Same.put (Same.trans (Same.put (Same.put (Same.put (Same.put (Same.put (Same.put (Same.put (Same.refl _ _) rfl) rfl) rfl) rfl) rfl) rfl) rfl) S88) rfl), (Eq.trans rfl (vb (Option.some.inj h))), (below_step bb87 bb88)⟩
   refine skp (no1 (j := 1) (t := 325) rfl (by kernel_rfl) rfl (Eq.trans rfl (vb c86)) rfl) rfl ?_
   refine skp (no1 (j := 1) (t := 325) rfl (by kernel_rfl) rfl (Eq.trans rfl (vb c86)) rfl) rfl ?_
   refine skp (no1 (j := 1) (t := 325) rfl (by kernel_rfl) rfl (Eq.trans rfl (vb c86)) rfl) rfl ?_
   refine skp (no1 (j := 1) (t := 325) rfl (by kernel_rfl) rfl (Eq.trans rfl (vb c86)) rfl) rfl ?_
   refine skp (no1 (j := 1) (t := 325) rfl (by kernel_rfl) rfl (Eq.trans rfl (vb c86)) rfl) rfl ?_
   refine skp (no1 (j := 1) (t := 325) rfl (by kernel_rfl) rfl (Eq.trans rfl (vb c86)) rfl) rfl ?_
   refine skp (no1 (j := 1) (t := 325) rfl (by kernel_rfl) rfl (Eq.trans rfl (vb c86)) rfl) rfl ?_
   refine skp (no1u (j := 8) (t := 332) rfl (by kernel_rfl) rfl rfl) rfl ?_
   refine skp (no1u (j := 8) (t := 332) rfl (by kernel_rfl) rfl rfl) rfl ?_
   refine skp (no1u (j := 8) (t := 332) rfl (by kernel_rfl) rfl rfl) rfl ?_
   refine skp (no1 (j := 1) (t := 325) rfl (by kernel_rfl) rfl (Eq.trans rfl (vb c86)) rfl) rfl ?_
   refine pk_ (b := false) (v := .bool false) rfl rfl rfl rfl rfl (go0 rfl) (Eq.trans rfl (vb c86)) rfl ?_
   refine wpList_nil ?_
   exact then_n ⟨_, rfl, (Same.put (Same.put (Same.put (Same.put (Same.put (Same.put (Same.put (Same.put (Same.put (Same.put (Same.put (Same.put (Same.refl _ _) rfl) rfl) rfl) rfl) rfl) rfl) rfl) rfl) rfl) rfl) rfl) rfl), (Eq.trans rfl (vb (Option.some.inj h))), (Below.refl _ _)⟩
 clear e85; rintro g85 w85 ⟨S85, x85_337, bb85⟩
 refine nilt ?_
 refine cF ?_ x85_337 rfl
 refine wp_skip ?_
 refine then_n ?_
 refine wp_seq ?_
 refine wp_region_lit ?_
 refine m0 (.slice A1 l1.length k1) rfl rfl rfl rfl (Eq.trans (S85 1 rfl) h1) ?_
 obtain ⟨⟨r91_1, r91_2⟩, e91, h⟩ := bind_ h
 refine cl_ Try.func40 (by kernel_rfl) rfl rfl rfl rfl (go0 rfl) (argc (v := .slice A1 l1.length k1) rfl argn) ?_
 refine (spec_DrawFirstWay.calls k A1 k1 l1 _ _ _ (C1 _ bb85) q1 e91).mono ?_
 rintro e w91 ⟨u91_0, rfl, ou91_0, bb91⟩
 obtain ⟨Au91_0, ku91_0, xu91_0, qu91_0, Cu91_0⟩ := V3 ou91_0; subst xu91_0
 refine ⟨_, rfl, ?_⟩
 refine m0 (.tuple #[.slice Au91_0 r91_1.length ku91_0, .int .i64 r91_2]) rfl rfl rfl rfl rfl ?_
 refine x0 (.slice Au91_0 r91_1.length ku91_0) rfl rfl rfl rfl rfl rfl ?_
 refine x0 (.int .i64 r91_2) rfl rfl rfl rfl rfl rfl ?_
 refine a0 (.slice Au91_0 r91_1.length ku91_0) rfl rfl rfl rfl rfl ?_
 refine a0 (.int .i64 r91_2) rfl rfl rfl rfl rfl ?_
 refine nilt ?_
 refine wp_seq ?_
 refine wp_region_lit ?_
 refine m0 (.slice Au91_0 r91_1.length ku91_0) rfl rfl rfl rfl rfl ?_
 refine m0 (.int .i64 r91_2) rfl rfl rfl rfl rfl ?_
 obtain ⟨⟨r92_1, r92_2⟩, e92, h⟩ := bind_ h
 refine cl_ Try.func41 (by kernel_rfl) rfl rfl rfl rfl (go0 rfl) (argc (v := .slice Au91_0 r91_1.length ku91_0) rfl (argc (v := .int .i64 r91_2) rfl argn)) ?_
 refine (impl_FirstWay.calls k Au91_0 ku91_0 r91_1 r91_2 _ _ _ (Cu91_0 _ (Below.refl _ _)) qu91_0 e92).mono ?_
 rintro e w92 ⟨u92_0, rfl, ou92_0, bb92⟩
 obtain ⟨Au92_0, ku92_0, xu92_0, qu92_0, Cu92_0⟩ := R3 ou92_0; subst xu92_0
 refine ⟨_, rfl, ?_⟩
 refine m0 (.tuple #[.slice Au92_0 r92_1.length ku92_0, .bool r92_2]) rfl rfl rfl rfl rfl ?_
 refine x0 (.slice Au92_0 r92_1.length ku92_0) rfl rfl rfl rfl rfl rfl ?_
 refine x0 (.bool r92_2) rfl rfl rfl rfl rfl rfl ?_
 refine a0 (.slice Au92_0 r92_1.length ku92_0) rfl rfl rfl rfl rfl ?_
 refine a0 (.bool r92_2) rfl rfl rfl rfl rfl ?_
 refine nilt ?_
 refine wp_seq ?_
 refine wp_region_lit ?_
 refine m0 (.slice Au91_0 r91_1.length ku91_0) rfl rfl rfl rfl rfl ?_
 refine m0 (.int .i64 r91_2) rfl rfl rfl rfl rfl ?_
 obtain ⟨⟨r93_1, r93_2⟩, e93, h⟩ := bind_ h
 refine cl_ Try.func42 (by kernel_rfl) rfl rfl rfl rfl (go0 rfl) (argc (v := .slice Au91_0 r91_1.length ku91_0) rfl (argc (v := .int .i64 r91_2) rfl argn)) ?_
 refine (spec_FirstWay.calls k Au91_0 ku91_0 r91_1 r91_2 _ _ _ (Cu91_0 _ bb92) qu91_0 e93).mono ?_
 rintro e w93 ⟨u93_0, rfl, ou93_0, bb93⟩
 obtain ⟨Au93_0, ku93_0, xu93_0, qu93_0, Cu93_0⟩ := R3 ou93_0; subst xu93_0
 refine ⟨_, rfl, ?_⟩
 refine m0 (.tuple #[.slice Au93_0 r93_1.length ku93_0, .bool r93_2]) rfl rfl rfl rfl rfl ?_
 refine x0 (.slice Au93_0 r93_1.length ku93_0) rfl rfl rfl rfl rfl rfl ?_
 refine x0 (.bool r93_2) rfl rfl rfl rfl rfl rfl ?_
 refine a0 (.slice Au93_0 r93_1.length ku93_0) rfl rfl rfl rfl rfl ?_
 refine a0 (.bool r93_2) rfl rfl rfl rfl rfl ?_
 refine nilt ?_
 refine wp_seq ?_
 refine wp_region_lit ?_
 refine m0 (.slice Au91_0 r91_1.length ku91_0) rfl rfl rfl rfl rfl ?_
 refine m0 (.int .i64 r91_2) rfl rfl rfl rfl rfl ?_
 obtain ⟨⟨r94_1, r94_2⟩, e94, h⟩ := bind_ h
 refine cl_ Try.func43 (by kernel_rfl) rfl rfl rfl rfl (go0 rfl) (argc (v := .slice Au91_0 r91_1.length ku91_0) rfl (argc (v := .int .i64 r91_2) rfl argn)) ?_
 refine (impl_CanMake.calls k Au91_0 ku91_0 r91_1 r91_2 _ _ _ (Cu91_0 _ (below_step bb92 bb93)) qu91_0 e94).mono ?_
 rintro e w94 ⟨rfl, bb94⟩
 refine ⟨_, rfl, ?_⟩
 refine m0 (.tuple #[.bool r94_1, .bool r94_2]) rfl rfl rfl rfl rfl ?_
 refine x0 (.bool r94_1) rfl rfl rfl rfl rfl rfl ?_
 refine x0 (.bool r94_2) rfl rfl rfl rfl rfl rfl ?_
 refine a0 (.bool r94_1) rfl rfl rfl rfl rfl ?_
 refine a0 (.bool r94_2) rfl rfl rfl rfl rfl ?_
 refine nilt ?_
 refine wp_seq ?_
 refine wp_region_lit ?_
 refine m0 (.slice Au91_0 r91_1.length ku91_0) rfl rfl rfl rfl rfl ?_
 refine m0 (.int .i64 r91_2) rfl rfl rfl rfl rfl ?_
 obtain ⟨⟨r95_1, r95_2⟩, e95, h⟩ := bind_ h
 refine cl_ Try.func44 (by kernel_rfl) rfl rfl rfl rfl (go0 rfl) (argc (v := .slice Au91_0 r91_1.length ku91_0) rfl (argc (v := .int .i64 r91_2) rfl argn)) ?_
 refine (spec_CanMake.calls k Au91_0 ku91_0 r91_1 r91_2 _ _ _ (Cu91_0 _ (below_step (below_step bb92 bb93) bb94)) qu91_0 e95).mono ?_
 rintro e w95 ⟨rfl, bb95⟩
 refine ⟨_, rfl, ?_⟩
 refine m0 (.tuple #[.bool r95_1, .bool r95_2]) rfl rfl rfl rfl rfl ?_
 refine x0 (.bool r95_1) rfl rfl rfl rfl rfl rfl ?_
 refine x0 (.bool r95_2) rfl rfl rfl rfl rfl rfl ?_
 refine a0 (.bool r95_1) rfl rfl rfl rfl rfl ?_
 refine a0 (.bool r95_2) rfl rfl rfl rfl rfl ?_
 refine nilt ?_
 exact laws_FnSumsMade.w96 k r ws _ _ Au91_0 ku91_0 r91_1 rfl qu91_0 (On.adv Cu91_0 (below_step (below_step (below_step bb92 bb93) bb94) bb95)) r91_2 rfl Au92_0 ku92_0 r92_1 rfl qu92_0 (On.adv Cu92_0 (below_step (below_step bb93 bb94) bb95)) r92_2 rfl Au93_0 ku93_0 r93_1 rfl qu93_0 (On.adv Cu93_0 (below_step bb94 bb95)) r93_2 rfl r94_1 rfl r94_2 rfl r95_1 rfl r95_2 rfl (below_step B0 (below_step (below_step (below_step (below_step (below_step bb85 bb91) bb92) bb93) bb94) bb95)) h
def laws_FnSumsMade.p73 (k : Nat) (l1 : List Int) (l5 : List Int) (l6 : List Int) (b7 : Bool) (a10 : Int) (a22 : Int) (l26 : List Int) (b27 : Bool) : Option Bool := if b7 = true then (if ((l6.length : Int) != a10) = true then none else (laws_tRises.f k l6).bind fun r76_0 => if (!r76_0) = true then none else if (decide ((0 : Int) ≤ 0) && decide (0 < (l6.length : Int))) = true then (if ((rd l6 0) != 0) = true then none else if (decide (0 ≤ (wrap64 (a10 - 1))) && decide ((wrap64 (a10 - 1)) < (l6.length : Int))) = true then (if ((rd l6 (wrap64 (a10 - 1))) != a22) = true then none else laws_FnSumsMade.p84 k l1 l5 a22 l26 b27) else none) else none) else (laws_FnSumsMade.p84 k l1 l5 a22 l26 b27)
theorem laws_FnSumsMade.w73 (k : Nat) (r : Bool) (ws : World) (f0 : Nat → Value) (w0 : World) (A1 : Option Addr) (k1 : Nat) (l1 : List Int) (h1 : f0 1 = .slice A1 l1.length k1) (q1 : l1.length ≤ k1) (C1 : On w0 fun x => Kd.C (Kd.int .u8) x A1 l1.length l1) (A5 : Option Addr) (k5 : Nat) (l5 : List Int) (h5 : f0 5 = .slice A5 l5.length k5) (q5 : l5.length ≤ k5) (C5 : On w0 fun x => Kd.C (Kd.int .i64) x A5 l5.length l5) (A6 : Option Addr) (k6 : Nat) (l6 : List Int) (h6 : f0 6 = .slice A6 l6.length k6) (q6 : l6.length ≤ k6) (C6 : On w0 fun x => Kd.C (Kd.int .i64) x A6 l6.length l6) (b7 : Bool) (h7 : f0 7 = .bool b7) (a10 : Int) (h10 : f0 10 = .int .i64 a10) (a22 : Int) (h22 : f0 22 = .int .i64 a22) (A26 : Option Addr) (k26 : Nat) (l26 : List Int) (h26 : f0 26 = .slice A26 l26.length k26) (q26 : l26.length ≤ k26) (C26 : On w0 fun x => Kd.C (Kd.int .i64) x A26 l26.length l26) (b27 : Bool) (h27 : f0 27 = .bool b27) (B0 : Below ws.heap.size ws w0) (h : laws_FnSumsMade.p73 k l1 l5 l6 b7 a10 a22 l26 b27 = some r) : Code.wp Try.prog (srn 18 laws_FnSumsMade.B) (laws_FnSumsMade.Q0 ws r) (fr 533 f0) w0 := by
 unfold laws_FnSumsMade.p73 at h
 refine wp_seq ?_
 refine wp_seq ?_
 refine wp_region_lit ?_
 refine m0 (.bool b7) rfl rfl rfl rfl h7 ?_
 refine nilt ?_
 rcases ifs h with ⟨c74, h⟩ | ⟨c74, h⟩
 · refine cT ?_ (Eq.trans rfl (vb c74)) rfl
   refine wp_seq ?_
   refine wp_region_lit ?_
   refine m0 (.slice A6 l6.length k6) rfl rfl rfl rfl h6 ?_
   refine ln_ laws_FnSumsMade.u24 rfl rfl rfl (go0 rfl) rfl ?_
   refine m0 (.int .i64 a10) rfl rfl rfl rfl h10 ?_
   obtain ⟨c75, h⟩ := ifn h
   refine bi_ (v := .bool (false)) rfl rfl rfl rfl (go0 rfl) rfl rfl (i_neq c75) ?_
   refine m0 (.bool false) rfl rfl rfl rfl rfl ?_
   refine mv_ (v := .slice A6 l6.length k6) rfl rfl rfl (go1 (j := 4) (t := 304) rfl (by kernel_rfl) rfl rfl) h6 ?_
   obtain ⟨r76_0, e76, h⟩ := bind_ h
   refine cl_ Try.func23 (by kernel_rfl) rfl rfl rfl rfl (go1 (j := 4) (t := 304) rfl (by kernel_rfl) rfl rfl) (argc (v := .slice A6 l6.length k6) rfl argn) ?_
   refine (laws_tRises.calls k A6 k6 l6 _ _ (C6 _ (Below.refl _ _)) q6 e76).mono ?_
   rintro e w76 ⟨rfl, d76⟩
   have bb76 := Drawn0.below d76
   refine ⟨_, rfl, ?_⟩
   obtain ⟨c77, h⟩ := ifn h
   refine nt_ (c := false) rfl rfl rfl (go1 (j := 4) (t := 304) rfl (by kernel_rfl) rfl rfl) rfl c77 ?_
   refine pk_ (b := false) (v := .bool false) rfl rfl rfl rfl rfl (go0 rfl) rfl rfl ?_
   refine m0 (.bool false) rfl rfl rfl rfl rfl ?_
   refine mv_ (v := .slice A6 l6.length k6) rfl rfl rfl (go1 (j := 9) (t := 309) rfl (by kernel_rfl) rfl rfl) h6 ?_
   obtain ⟨c78, h⟩ := ify h
   replace c78 := bnd c78
   obtain ⟨ad79, ead79, xad79⟩ := at_int_on (On.adv C6 bb76) 0 c78.1 (by have := c78.2; omega)
   refine ix_ (q := 0) laws_FnSumsMade.u24 laws_FnSumsMade.z24 rfl rfl rfl rfl (go1 (j := 9) (t := 309) rfl (by kernel_rfl) rfl rfl) rfl rfl ead79 c78 ?_
   refine ld_ (v := .int .i64 (rd l6 0)) rfl rfl rfl (go1 (j := 9) (t := 309) rfl (by kernel_rfl) rfl rfl) rfl (load_i laws_FnSumsMade.u3 (xad79 _ (Below.refl _ _))) ?_
   obtain ⟨c80, h⟩ := ifn h
   refine bi_ (v := .bool (false)) rfl rfl rfl rfl (go1 (j := 9) (t := 309) rfl (by kernel_rfl) rfl rfl) rfl rfl (i_neq c80) ?_
   refine pk_ (b := false) (v := .bool false) rfl rfl rfl rfl rfl (go0 rfl) rfl rfl ?_
   refine m0 (.bool false) rfl rfl rfl rfl rfl ?_
   refine mv_ (v := .slice A6 l6.length k6) rfl rfl rfl (go1 (j := 15) (t := 315) rfl (by kernel_rfl) rfl rfl) h6 ?_
   refine mv_ (v := .int .i64 a10) rfl rfl rfl (go1 (j := 15) (t := 315) rfl (by kernel_rfl) rfl rfl) h10 ?_
   refine bi_ (v := .int .i64 (wrap64 (a10 - 1))) rfl rfl rfl rfl (go1 (j := 15) (t := 315) rfl (by kernel_rfl) rfl rfl) rfl rfl (i_sub rfl) ?_
   obtain ⟨c81, h⟩ := ify h
   replace c81 := bnd c81
   obtain ⟨ad82, ead82, xad82⟩ := at_int_on (On.adv C6 bb76) (wrap64 (a10 - 1)) c81.1 (by have := c81.2; omega)
   refine ix_ (q := (wrap64 (a10 - 1))) laws_FnSumsMade.u24 laws_FnSumsMade.z24 rfl rfl rfl rfl (go1 (j := 15) (t := 315) rfl (by kernel_rfl) rfl rfl) rfl rfl ead82 c81 ?_
   refine ld_ (v := .int .i64 (rd l6 (wrap64 (a10 - 1)))) rfl rfl rfl (go1 (j := 15) (t := 315) rfl (by kernel_rfl) rfl rfl) rfl (load_i laws_FnSumsMade.u3 (xad82 _ (Below.refl _ _))) ?_
   refine mv_ (v := .int .i64 a22) rfl rfl rfl (go1 (j := 15) (t := 315) rfl (by kernel_rfl) rfl rfl) h22 ?_
   obtain ⟨c83, h⟩ := ifn h
   refine bi_ (v := .bool (false)) rfl rfl rfl rfl (go1 (j := 15) (t := 315) rfl (by kernel_rfl) rfl rfl) rfl rfl (i_neq c83) ?_
   refine pk_ (b := false) (v := .bool false) rfl rfl rfl rfl rfl (go0 rfl) rfl rfl ?_
   refine nilt ?_
   refine cF ?_ rfl rfl
   refine wp_skip ?_
   refine then_n ?_
   exact laws_FnSumsMade.w84 k r ws _ _ A1 k1 l1 h1 q1 (On.adv C1 bb76) A5 k5 l5 h5 q5 (On.adv C5 bb76) a22 h22 A26 k26 l26 h26 q26 (On.adv C26 bb76) b27 h27 (below_step B0 bb76) h
 refine cF ?_ (Eq.trans rfl (vb c74)) rfl
 refine wp_skip ?_
 refine then_n ?_
 exact laws_FnSumsMade.w84 k r ws _ _ A1 k1 l1 h1 q1 C1 A5 k5 l5 h5 q5 C5 a22 h22 A26 k26 l26 h26 q26 C26 b27 h27 B0 h
def laws_FnSumsMade.l66 (k : Nat) : Nat → List Int → List Int → List Int → Bool → Int → List Int → Int → List Int → Bool → List Int → Int → Int → Option Bool
 | 0, _, _, _, _, _, _, _, _, _, _, _, _ => none
 | n + 1, l1, l5, l6, b7, a10, l18, a22, l26, b27, l286, a287, a288 => if (decide (a288 < a287)) = true then (if (decide (0 ≤ a288) && decide (a288 < (l286.length : Int))) = true then ((laws_tHas.f k l18 (wrap64 (a22 - (rd l286 a288)))).bind fun r70_0 => if (!r70_0) = true then none else laws_FnSumsMade.p72 k (laws_FnSumsMade.l66 k n) l1 l5 l6 b7 a10 l18 a22 l26 b27 l286 a287 a288) else none) else (laws_FnSumsMade.p73 k l1 l5 l6 b7 a10 a22 l26 b27)
theorem laws_FnSumsMade.w66 (k : Nat) (r : Bool) (ws : World) : ∀ (n : Nat), ∀ (f0 : Nat → Value) (w0 : World) (A1 : Option Addr) (k1 : Nat) (l1 : List Int) (h1 : f0 1 = .slice A1 l1.length k1) (q1 : l1.length ≤ k1) (C1 : On w0 fun x => Kd.C (Kd.int .u8) x A1 l1.length l1) (A5 : Option Addr) (k5 : Nat) (l5 : List Int) (h5 : f0 5 = .slice A5 l5.length k5) (q5 : l5.length ≤ k5) (C5 : On w0 fun x => Kd.C (Kd.int .i64) x A5 l5.length l5) (A6 : Option Addr) (k6 : Nat) (l6 : List Int) (h6 : f0 6 = .slice A6 l6.length k6) (q6 : l6.length ≤ k6) (C6 : On w0 fun x => Kd.C (Kd.int .i64) x A6 l6.length l6) (b7 : Bool) (h7 : f0 7 = .bool b7) (a10 : Int) (h10 : f0 10 = .int .i64 a10) (A18 : Option Addr) (k18 : Nat) (l18 : List Int) (h18 : f0 18 = .slice A18 l18.length k18) (q18 : l18.length ≤ k18) (C18 : On w0 fun x => Kd.C (Kd.int .i64) x A18 l18.length l18) (a22 : Int) (h22 : f0 22 = .int .i64 a22) (A26 : Option Addr) (k26 : Nat) (l26 : List Int) (h26 : f0 26 = .slice A26 l26.length k26) (q26 : l26.length ≤ k26) (C26 : On w0 fun x => Kd.C (Kd.int .i64) x A26 l26.length l26) (b27 : Bool) (h27 : f0 27 = .bool b27) (A286 : Option Addr) (k286 : Nat) (l286 : List Int) (h286 : f0 286 = .slice A286 l286.length k286) (q286 : l286.length ≤ k286) (C286 : On w0 fun x => Kd.C (Kd.int .i64) x A286 l286.length l286) (a287 : Int) (h287 : f0 287 = .int .i64 a287) (a288 : Int) (h288 : f0 288 = .int .i64 a288) (B0 : Below ws.heap.size ws w0) (h : laws_FnSumsMade.l66 k n l1 l5 l6 b7 a10 l18 a22 l26 b27 l286 a287 a288 = some r), AtHead Try.prog (lb (bl (srn 2 (ct (srn 1 (sl (srn 17 laws_FnSumsMade.B))))))) (laws_FnSumsMade.Q2 ws r) (fr 533 f0) w0 := by
 intro n
 induction n with
 | zero => intro f0 w0 A1 k1 l1 h1 q1 C1 A5 k5 l5 h5 q5 C5 A6 k6 l6 h6 q6 C6 b7 h7 a10 h10 A18 k18 l18 h18 q18 C18 a22 h22 A26 k26 l26 h26 q26 C26 b27 h27 A286 k286 l286 h286 q286 C286 a287 h287 a288 h288 B0 h; rw [laws_FnSumsMade.l66] at h; cases h
 | succ n ih66 =>
  intro f0 w0 A1 k1 l1 h1 q1 C1 A5 k5 l5 h5 q5 C5 A6 k6 l6 h6 q6 C6 b7 h7 a10 h10 A18 k18 l18 h18 q18 C18 a22 h22 A26 k26 l26 h26 q26 C26 b27 h27 A286 k286 l286 h286 q286 C286 a287 h287 a288 h288 B0 h
  rw [laws_FnSumsMade.l66] at h
  refine head_round ?_
  refine wp_seq ?_
  refine wp_region_lit ?_
  refine bi_ (v := .bool (decide (a288 < a287))) rfl rfl rfl rfl (go0 rfl) h288 h287 (i_lss rfl) ?_
  refine nilt ?_
  refine wp_seq ?_
  rcases ifs h with ⟨c67, h⟩ | ⟨c67, h⟩
  · refine cT ?_ (Eq.trans rfl (vb c67)) rfl
    refine wp_skip ?_
    refine then_n ?_
    refine wp_seq ?_
    refine wp_block ?_
    refine wp_seq ?_
    refine wp_region_lit ?_
    obtain ⟨c68, h⟩ := ify h
    replace c68 := bnd c68
    obtain ⟨ad69, ead69, xad69⟩ := at_int_on C286 a288 c68.1 (by have := c68.2; omega)
    refine ix_ (q := a288) laws_FnSumsMade.u24 laws_FnSumsMade.z24 rfl rfl rfl rfl (go0 rfl) h286 h288 ead69 c68 ?_
    refine ld_ (v := .int .i64 (rd l286 a288)) rfl rfl rfl (go0 rfl) rfl (load_i laws_FnSumsMade.u3 (xad69 _ (Below.refl _ _))) ?_
    refine a0 (.int .i64 (rd l286 a288)) rfl rfl rfl rfl rfl ?_
    refine nilt ?_
    refine wp_seq ?_
    refine wp_region_lit ?_
    refine m0 (.slice A18 l18.length k18) rfl rfl rfl rfl h18 ?_
    refine m0 (.int .i64 a22) rfl rfl rfl rfl h22 ?_
    refine m0 (.int .i64 (rd l286 a288)) rfl rfl rfl rfl rfl ?_
    refine bi_ (v := .int .i64 (wrap64 (a22 - (rd l286 a288)))) rfl rfl rfl rfl (go0 rfl) rfl rfl (i_sub rfl) ?_
    obtain ⟨r70_0, e70, h⟩ := bind_ h
    refine cl_ Try.func22 (by kernel_rfl) rfl rfl rfl rfl (go0 rfl) (argc (v := .slice A18 l18.length k18) rfl (argc (v := .int .i64 (wrap64 (a22 - (rd l286 a288)))) rfl argn)) ?_
    refine (laws_tHas.calls k A18 k18 l18 (wrap64 (a22 - (rd l286 a288))) _ _ (C18 _ (Below.refl _ _)) q18 e70).mono ?_
    rintro e w70 ⟨rfl, d70⟩
    have bb70 := Drawn0.below d70
    refine ⟨_, rfl, ?_⟩
    obtain ⟨c71, h⟩ := ifn h
    refine nt_ (c := false) rfl rfl rfl (go0 rfl) rfl c71 ?_
    refine nilt ?_
    refine cF ?_ rfl rfl
    refine wp_skip ?_
    refine blk_n ?_
    refine then_n ?_
    exact laws_FnSumsMade.w72 k r ws (laws_FnSumsMade.l66 k n) ih66 _ _ A1 k1 l1 h1 q1 (On.adv C1 bb70) A5 k5 l5 h5 q5 (On.adv C5 bb70) A6 k6 l6 h6 q6 (On.adv C6 bb70) b7 h7 a10 h10 A18 k18 l18 h18 q18 (On.adv C18 bb70) a22 h22 A26 k26 l26 h26 q26 (On.adv C26 bb70) b27 h27 A286 k286 l286 h286 q286 (On.adv C286 bb70) a287 h287 a288 h288 (below_step B0 bb70) h
  refine cF ?_ (Eq.trans rfl (vb c67)) rfl
  refine wp_exit ?_
  refine then_x ?_
  refine then_x ?_
  refine blk_x ?_
  refine then_n ?_
  exact laws_FnSumsMade.w73 k r ws _ _ A1 k1 l1 h1 q1 C1 A5 k5 l5 h5 q5 C5 A6 k6 l6 h6 q6 C6 b7 h7 a10 h10 a22 h22 A26 k26 l26 h26 q26 C26 b27 h27 B0 h
def laws_FnSumsMade.p46 (k : Nat) (l1 : List Int) (l5 : List Int) (l6 : List Int) (b7 : Bool) (a10 : Int) (b11 : Bool) (a14 : Int) (l18 : List Int) (b19 : Bool) (a22 : Int) (l26 : List Int) (b27 : Bool) : Option Bool := (if b11 = true then ((laws_tSum.f k l5).bind fun r49_0 => (if (a22 != r49_0) = true then (some true) else (some (decide (a22 < a14)))).bind fun d50 => (if d50 = true then (some true) else (some (decide (a10 < 1)))).bind fun d52 => (if d52 = true then (some true) else (some (decide ((wrap64 (a22 + 1)) < a10)))).bind fun d54 => some d54) else (some false)).bind fun d47 => if d47 = true then none else if b19 = true then (if ((wrap64 (a10 + (l18.length : Int))) != (wrap64 (a22 + 1))) = true then none else (laws_tRises.f k l18).bind fun r58_0 => if (!r58_0) = true then none else (if (decide (0 < (l18.length : Int))) = true then (if (decide ((0 : Int) ≤ 0) && decide (0 < (l18.length : Int))) = true then (some ((rd l18 0) != (wrap64 (a14 + 1)))) else none) else (some false)).bind fun d60 => if d60 = true then none else (if ((l18.length : Int) == 0) = true then (some (a14 != a22)) else (some false)).bind fun d64 => if d64 = true then none else laws_FnSumsMade.l66 k k l1 l5 l6 b7 a10 l18 a22 l26 b27 l18 (l18.length : Int) 0) else (laws_FnSumsMade.p73 k l1 l5 l6 b7 a10 a22 l26 b27)
theorem laws_FnSumsMade.w46 (k : Nat) (r : Bool) (ws : World) (f0 : Nat → Value) (w0 : World) (A1 : Option Addr) (k1 : Nat) (l1 : List Int) (h1 : f0 1 = .slice A1 l1.length k1) (q1 : l1.length ≤ k1) (C1 : On w0 fun x => Kd.C (Kd.int .u8) x A1 l1.length l1) (A5 : Option Addr) (k5 : Nat) (l5 : List Int) (h5 : f0 5 = .slice A5 l5.length k5) (q5 : l5.length ≤ k5) (C5 : On w0 fun x => Kd.C (Kd.int .i64) x A5 l5.length l5) (A6 : Option Addr) (k6 : Nat) (l6 : List Int) (h6 : f0 6 = .slice A6 l6.length k6) (q6 : l6.length ≤ k6) (C6 : On w0 fun x => Kd.C (Kd.int .i64) x A6 l6.length l6) (b7 : Bool) (h7 : f0 7 = .bool b7) (a10 : Int) (h10 : f0 10 = .int .i64 a10) (b11 : Bool) (h11 : f0 11 = .bool b11) (a14 : Int) (h14 : f0 14 = .int .i64 a14) (A18 : Option Addr) (k18 : Nat) (l18 : List Int) (h18 : f0 18 = .slice A18 l18.length k18) (q18 : l18.length ≤ k18) (C18 : On w0 fun x => Kd.C (Kd.int .i64) x A18 l18.length l18) (b19 : Bool) (h19 : f0 19 = .bool b19) (a22 : Int) (h22 : f0 22 = .int .i64 a22) (A26 : Option Addr) (k26 : Nat) (l26 : List Int) (h26 : f0 26 = .slice A26 l26.length k26) (q26 : l26.length ≤ k26) (C26 : On w0 fun x => Kd.C (Kd.int .i64) x A26 l26.length l26) (b27 : Bool) (h27 : f0 27 = .bool b27) (B0 : Below ws.heap.size ws w0) (h : laws_FnSumsMade.p46 k l1 l5 l6 b7 a10 b11 a14 l18 b19 a22 l26 b27 = some r) : Code.wp Try.prog (srn 16 laws_FnSumsMade.B) (laws_FnSumsMade.Q0 ws r) (fr 533 f0) w0 := by
 unfold laws_FnSumsMade.p46 at h
 refine wp_seq ?_
 refine wp_seq ?_
 refine wp_region_lit ?_
 refine m0 (.bool b11) rfl rfl rfl rfl h11 ?_
 refine m0 (.bool b11) rfl rfl rfl rfl rfl ?_
 obtain ⟨d47, e47, h⟩ := bind_ h
 replace h := ifn h
 obtain ⟨y47, h⟩ := h
 subst y47
 refine cut_ 20 (fun f g w' => Same 58 f g ∧ g 249 = .bool false ∧ Below w0.heap.size w0 w') ?_ ?_
 · clear h; have h := e47; clear e47
   rcases ifs h with ⟨c48, h⟩ | ⟨c48, h⟩
   · refine mv_ (v := .int .i64 a22) rfl rfl rfl (go1 (j := 1) (t := 229) rfl (by kernel_rfl) rfl (Eq.trans rfl (vb c48))) h22 ?_
     refine mv_ (v := .slice A5 l5.length k5) rfl rfl rfl (go1 (j := 1) (t := 229) rfl (by kernel_rfl) rfl (Eq.trans rfl (vb c48))) h5 ?_
     obtain ⟨r49_0, e49, h⟩ := bind_ h
     refine cl_ Try.func13 (by kernel_rfl) rfl rfl rfl rfl (go1 (j := 1) (t := 229) rfl (by kernel_rfl) rfl (Eq.trans rfl (vb c48))) (argc (v := .slice A5 l5.length k5) rfl argn) ?_
     refine (laws_tSum.calls k A5 k5 l5 _ _ (C5 _ (Below.refl _ _)) q5 e49).mono ?_
     rintro e w49 ⟨rfl, d49⟩
     have bb49 := Drawn0.below d49
     refine ⟨_, rfl, ?_⟩
     refine bi_ (v := .bool ((a22 != r49_0))) rfl rfl rfl rfl (go1 (j := 1) (t := 229) rfl (by kernel_rfl) rfl (Eq.trans rfl (vb c48))) rfl rfl (i_neq rfl) ?_
     refine mv_ (v := .bool (a22 != r49_0)) rfl rfl rfl (go1 (j := 1) (t := 229) rfl (by kernel_rfl) rfl (Eq.trans rfl (vb c48))) rfl ?_
     obtain ⟨d50, e50, h⟩ := bind_ h
     refine cut_ 4 (fun f g w' => Same 58 f g ∧ g 238 = .bool d50 ∧ g 229 = .bool true ∧ Below w49.heap.size w49 w') ?_ ?_
     · clear h; have h := e50; clear e50
       rcases ifs h with ⟨c51, h⟩ | ⟨c51, h⟩
       · refine skp (no1 (j := 6) (t := 234) rfl (by kernel_rfl) rfl (Eq.trans rfl (vb c51)) rfl) rfl ?_
         refine skp (no1 (j := 6) (t := 234) rfl (by kernel_rfl) rfl (Eq.trans rfl (vb c51)) rfl) rfl ?_
         refine skp (no1 (j := 6) (t := 234) rfl (by kernel_rfl) rfl (Eq.trans rfl (vb c51)) rfl) rfl ?_
         refine pk_ (b := true) (v := .bool true) rfl rfl rfl rfl rfl (go1 (j := 1) (t := 229) rfl (by kernel_rfl) rfl (Eq.trans rfl (vb c48))) (Eq.trans rfl (vb c51)) rfl ?_
         refine wpList_nil ?_
         exact then_n ⟨_, rfl, (Same.put (Same.put (Same.put (Same.put (Same.refl _ _) rfl) rfl) rfl) rfl), (Eq.trans rfl (vb (Option.some.inj h))), (Eq.trans rfl (vb c48)), (Below.refl _ _)⟩
       refine mv_ (v := .int .i64 a14) rfl rfl rfl (go1 (j := 6) (t := 234) rfl (by kernel_rfl) rfl (Eq.trans rfl (vb c51))) h14 ?_
       refine mv_ (v := .int .i64 a22) rfl rfl rfl (go1 (j := 6) (t := 234) rfl (by kernel_rfl) rfl (Eq.trans rfl (vb c51))) h22 ?_
       refine bi_ (v := .bool (decide (a22 < a14))) rfl rfl rfl rfl (go1 (j := 6) (t := 234) rfl (by kernel_rfl) rfl (Eq.trans rfl (vb c51))) rfl rfl (i_gtr rfl) ?_
       refine pk_ (b := false) (v := .bool (decide (a22 < a14))) rfl rfl rfl rfl rfl (go1 (j := 1) (t := 229) rfl (by kernel_rfl) rfl (Eq.trans rfl (vb c48))) (Eq.trans rfl (vb c51)) rfl ?_
       refine wpList_nil ?_
       exact then_n ⟨_, rfl, (Same.put (Same.put (Same.put (Same.put (Same.refl _ _) rfl) rfl) rfl) rfl), (Eq.trans rfl (vb (Option.some.inj h))), (Eq.trans rfl (vb c48)), (Below.refl _ _)⟩
     clear e50; rintro g50 w50 ⟨S50, x50_238, x50_229, bb50⟩
     refine mv_ (v := .bool d50) rfl rfl rfl (go1 (j := 1) (t := 229) rfl (by kernel_rfl) rfl x50_229) x50_238 ?_
     obtain ⟨d52, e52, h⟩ := bind_ h
     refine cut_ 3 (fun f g w' => Same 58 f g ∧ g 242 = .bool d52 ∧ g 229 = .bool true ∧ Below w50.heap.size w50 w') ?_ ?_
     · clear h; have h := e52; clear e52
       rcases ifs h with ⟨c53, h⟩ | ⟨c53, h⟩
       · refine skp (no1 (j := 11) (t := 239) rfl (by kernel_rfl) rfl (Eq.trans rfl (vb c53)) rfl) rfl ?_
         refine skp (no1 (j := 11) (t := 239) rfl (by kernel_rfl) rfl (Eq.trans rfl (vb c53)) rfl) rfl ?_
         refine pk_ (b := true) (v := .bool true) rfl rfl rfl rfl rfl (go1 (j := 1) (t := 229) rfl (by kernel_rfl) rfl x50_229) (Eq.trans rfl (vb c53)) rfl ?_
         refine wpList_nil ?_
         exact then_n ⟨_, rfl, (Same.put (Same.put (Same.put (Same.refl _ _) rfl) rfl) rfl), (Eq.trans rfl (vb (Option.some.inj h))), x50_229, (Below.refl _ _)⟩
       refine mv_ (v := .int .i64 a10) rfl rfl rfl (go1 (j := 11) (t := 239) rfl (by kernel_rfl) rfl (Eq.trans rfl (vb c53))) (Eq.trans (S50 10 rfl) h10) ?_
       refine bi_ (v := .bool (decide (a10 < 1))) rfl rfl rfl rfl (go1 (j := 11) (t := 239) rfl (by kernel_rfl) rfl (Eq.trans rfl (vb c53))) rfl rfl (i_lss rfl) ?_
       refine pk_ (b := false) (v := .bool (decide (a10 < 1))) rfl rfl rfl rfl rfl (go1 (j := 1) (t := 229) rfl (by kernel_rfl) rfl x50_229) (Eq.trans rfl (vb c53)) rfl ?_
       refine wpList_nil ?_
       exact then_n ⟨_, rfl, (Same.put (Same.put (Same.put (Same.refl _ _) rfl) rfl) rfl), (Eq.trans rfl (vb (Option.some.inj h))), x50_229, (Below.refl _ _)⟩
     clear e52; rintro g52 w52 ⟨S52, x52_242, x52_229, bb52⟩
     refine mv_ (v := .bool d52) rfl rfl rfl (go1 (j := 1) (t := 229) rfl (by kernel_rfl) rfl x52_229) x52_242 ?_
     obtain ⟨d54, e54, h⟩ := bind_ h
     refine cut_ 5 (fun f g w' => Same 58 f g ∧ g 248 = .bool d54 ∧ g 229 = .bool true ∧ Below w52.heap.size w52 w') ?_ ?_
     · clear h; have h := e54; clear e54
       rcases ifs h with ⟨c55, h⟩ | ⟨c55, h⟩
       · refine skp (no1 (j := 15) (t := 243) rfl (by kernel_rfl) rfl (Eq.trans rfl (vb c55)) rfl) rfl ?_
         refine skp (no1 (j := 15) (t := 243) rfl (by kernel_rfl) rfl (Eq.trans rfl (vb c55)) rfl) rfl ?_
         refine skp (no1 (j := 15) (t := 243) rfl (by kernel_rfl) rfl (Eq.trans rfl (vb c55)) rfl) rfl ?_
         refine skp (no1 (j := 15) (t := 243) rfl (by kernel_rfl) rfl (Eq.trans rfl (vb c55)) rfl) rfl ?_
         refine pk_ (b := true) (v := .bool true) rfl rfl rfl rfl rfl (go1 (j := 1) (t := 229) rfl (by kernel_rfl) rfl x52_229) (Eq.trans rfl (vb c55)) rfl ?_
         refine wpList_nil ?_
         exact then_n ⟨_, rfl, (Same.put (Same.put (Same.put (Same.put (Same.put (Same.refl _ _) rfl) rfl) rfl) rfl) rfl), (Eq.trans rfl (vb (Option.some.inj h))), x52_229, (Below.refl _ _)⟩
       refine mv_ (v := .int .i64 a10) rfl rfl rfl (go1 (j := 15) (t := 243) rfl (by kernel_rfl) rfl (Eq.trans rfl (vb c55))) (Eq.trans (S52 10 rfl) (Eq.trans (S50 10 rfl) h10)) ?_
       refine mv_ (v := .int .i64 a22) rfl rfl rfl (go1 (j := 15) (t := 243) rfl (by kernel_rfl) rfl (Eq.trans rfl (vb c55))) (Eq.trans (S52 22 rfl) (Eq.trans (S50 22 rfl) h22)) ?_
       refine bi_ (v := .int .i64 (wrap64 (a22 + 1))) rfl rfl rfl rfl (go1 (j := 15) (t := 243) rfl (by kernel_rfl) rfl (Eq.trans rfl (vb c55))) rfl rfl (i_add rfl) ?_
       refine bi_ (v := .bool (decide ((wrap64 (a22 + 1)) < a10))) rfl rfl rfl rfl (go1 (j := 15) (t := 243) rfl (by kernel_rfl) rfl (Eq.trans rfl (vb c55))) rfl rfl (i_gtr rfl) ?_
       refine pk_ (b := false) (v := .bool (decide ((wrap64 (a22 + 1)) < a10))) rfl rfl rfl rfl rfl (go1 (j := 1) (t := 229) rfl (by kernel_rfl) rfl x52_229) (Eq.trans rfl (vb c55)) rfl ?_
       refine wpList_nil ?_
       exact then_n ⟨_, rfl, (Same.put (Same.put (Same.put (Same.put (Same.put (Same.refl _ _) rfl) rfl) rfl) rfl) rfl), (Eq.trans rfl (vb (Option.some.inj h))), x52_229, (Below.refl _ _)⟩
     clear e54; rintro g54 w54 ⟨S54, x54_248, x54_229, bb54⟩
     refine pk_ (b := true) (v := .bool d54) rfl rfl rfl rfl rfl (go0 rfl) x54_229 x54_248 ?_
     refine wpList_nil ?_
     exact then_n ⟨_, rfl, (Same.put (Same.trans (Same.put (Same.trans (Same.put (Same.trans (Same.put (Same.put (Same.put (Same.put (Same.put (Same.refl _ _) rfl) rfl) rfl) rfl) rfl) S50) rfl) S52) rfl) S54) rfl), (Eq.trans rfl (vb (Option.some.inj h))), (below_step (below_step (below_step bb49 bb50) bb52) bb54)⟩
   refine skp (no1 (j := 1) (t := 229) rfl (by kernel_rfl) rfl (Eq.trans rfl (vb c48)) rfl) rfl ?_
   refine skp (no1 (j := 1) (t := 229) rfl (by kernel_rfl) rfl (Eq.trans rfl (vb c48)) rfl) rfl ?_
   refine skp (no1 (j := 1) (t := 229) rfl (by kernel_rfl) rfl (Eq.trans rfl (vb c48)) rfl) rfl ?_
   refine skp (no1 (j := 1) (t := 229) rfl (by kernel_rfl) rfl (Eq.trans rfl (vb c48)) rfl) rfl ?_
   refine skp (no1 (j := 1) (t := 229) rfl (by kernel_rfl) rfl (Eq.trans rfl (vb c48)) rfl) rfl ?_
   refine skp (no1u (j := 6) (t := 234) rfl (by kernel_rfl) rfl rfl) rfl ?_
   refine skp (no1u (j := 6) (t := 234) rfl (by kernel_rfl) rfl rfl) rfl ?_
   refine skp (no1u (j := 6) (t := 234) rfl (by kernel_rfl) rfl rfl) rfl ?_
   refine skp (no1 (j := 1) (t := 229) rfl (by kernel_rfl) rfl (Eq.trans rfl (vb c48)) rfl) rfl ?_
   refine skp (no1 (j := 1) (t := 229) rfl (by kernel_rfl) rfl (Eq.trans rfl (vb c48)) rfl) rfl ?_
   refine skp (no1u (j := 11) (t := 239) rfl (by kernel_rfl) rfl rfl) rfl ?_
   refine skp (no1u (j := 11) (t := 239) rfl (by kernel_rfl) rfl rfl) rfl ?_
   refine skp (no1 (j := 1) (t := 229) rfl (by kernel_rfl) rfl (Eq.trans rfl (vb c48)) rfl) rfl ?_
   refine skp (no1 (j := 1) (t := 229) rfl (by kernel_rfl) rfl (Eq.trans rfl (vb c48)) rfl) rfl ?_
   refine skp (no1u (j := 15) (t := 243) rfl (by kernel_rfl) rfl rfl) rfl ?_
   refine skp (no1u (j := 15) (t := 243) rfl (by kernel_rfl) rfl rfl) rfl ?_
   refine skp (no1u (j := 15) (t := 243) rfl (by kernel_rfl) rfl rfl) rfl ?_
   refine skp (no1u (j := 15) (t := 243) rfl (by kernel_rfl) rfl rfl) rfl ?_
   refine skp (no1 (j := 1) (t := 229) rfl (by kernel_rfl) rfl (Eq.trans rfl (vb c48)) rfl) rfl ?_
   refine pk_ (b := false) (v := .bool false) rfl rfl rfl rfl rfl (go0 rfl) (Eq.trans rfl (vb c48)) rfl ?_
   refine wpList_nil ?_
   exact then_n ⟨_, rfl, (Same.put (Same.put (Same.put (Same.put (Same.put (Same.put (Same.put (Same.put (Same.put (Same.put (Same.put (Same.put (Same.put (Same.put (Same.put (Same.put (Same.put (Same.put (Same.put (Same.put (Same.refl _ _) rfl) rfl) rfl) rfl) rfl) rfl) rfl) rfl) rfl) rfl) rfl) rfl) rfl) rfl) rfl) rfl) rfl) rfl) rfl) rfl), (Eq.trans rfl (vb (Option.some.inj h))), (Below.refl _ _)⟩
 clear e47; rintro g47 w47 ⟨S47, x47_249, bb47⟩
 refine nilt ?_
 refine cF ?_ x47_249 rfl
 refine wp_skip ?_
 refine then_n ?_
 refine wp_seq ?_
 refine wp_seq ?_
 refine wp_region_lit ?_
 refine m0 (.bool b19) rfl rfl rfl rfl (Eq.trans (S47 19 rfl) h19) ?_
 refine nilt ?_
 rcases ifs h with ⟨c56, h⟩ | ⟨c56, h⟩
 · refine cT ?_ (Eq.trans rfl (vb c56)) rfl
   refine wp_seq ?_
   refine wp_seq ?_
   refine wp_region_lit ?_
   refine m0 (.int .i64 a10) rfl rfl rfl rfl (Eq.trans (S47 10 rfl) h10) ?_
   refine m0 (.slice A18 l18.length k18) rfl rfl rfl rfl (Eq.trans (S47 18 rfl) h18) ?_
   refine ln_ laws_FnSumsMade.u24 rfl rfl rfl (go0 rfl) rfl ?_
   refine bi_ (v := .int .i64 (wrap64 (a10 + (l18.length : Int)))) rfl rfl rfl rfl (go0 rfl) rfl rfl (i_add rfl) ?_
   refine m0 (.int .i64 a22) rfl rfl rfl rfl (Eq.trans (S47 22 rfl) h22) ?_
   refine bi_ (v := .int .i64 (wrap64 (a22 + 1))) rfl rfl rfl rfl (go0 rfl) rfl rfl (i_add rfl) ?_
   obtain ⟨c57, h⟩ := ifn h
   refine bi_ (v := .bool (false)) rfl rfl rfl rfl (go0 rfl) rfl rfl (i_neq c57) ?_
   refine m0 (.bool false) rfl rfl rfl rfl rfl ?_
   refine mv_ (v := .slice A18 l18.length k18) rfl rfl rfl (go1 (j := 7) (t := 258) rfl (by kernel_rfl) rfl rfl) (Eq.trans (S47 18 rfl) h18) ?_
   obtain ⟨r58_0, e58, h⟩ := bind_ h
   refine cl_ Try.func23 (by kernel_rfl) rfl rfl rfl rfl (go1 (j := 7) (t := 258) rfl (by kernel_rfl) rfl rfl) (argc (v := .slice A18 l18.length k18) rfl argn) ?_
   refine (laws_tRises.calls k A18 k18 l18 _ _ (C18 _ bb47) q18 e58).mono ?_
   rintro e w58 ⟨rfl, d58⟩
   have bb58 := Drawn0.below d58
   refine ⟨_, rfl, ?_⟩
   obtain ⟨c59, h⟩ := ifn h
   refine nt_ (c := false) rfl rfl rfl (go1 (j := 7) (t := 258) rfl (by kernel_rfl) rfl rfl) rfl c59 ?_
   refine pk_ (b := false) (v := .bool false) rfl rfl rfl rfl rfl (go0 rfl) rfl rfl ?_
   refine m0 (.bool false) rfl rfl rfl rfl rfl ?_
   refine mv_ (v := .slice A18 l18.length k18) rfl rfl rfl (go1 (j := 12) (t := 263) rfl (by kernel_rfl) rfl rfl) (Eq.trans (S47 18 rfl) h18) ?_
   refine ln_ laws_FnSumsMade.u24 rfl rfl rfl (go1 (j := 12) (t := 263) rfl (by kernel_rfl) rfl rfl) rfl ?_
   refine bi_ (v := .bool (decide (0 < (l18.length : Int)))) rfl rfl rfl rfl (go1 (j := 12) (t := 263) rfl (by kernel_rfl) rfl rfl) rfl rfl (i_gtr rfl) ?_
   refine mv_ (v := .bool (decide (0 < (l18.length : Int)))) rfl rfl rfl (go1 (j := 12) (t := 263) rfl (by kernel_rfl) rfl rfl) rfl ?_
   obtain ⟨d60, e60, h⟩ := bind_ h
   replace h := ifn h
   obtain ⟨y60, h⟩ := h
   subst y60
   refine cut_ 7 (fun f g w' => Same 58 f g ∧ g 274 = .bool false ∧ g 263 = .bool false ∧ Below w58.heap.size w58 w') ?_ ?_
   · clear h; have h := e60; clear e60
     rcases ifs h with ⟨c61, h⟩ | ⟨c61, h⟩
     · refine mv_ (v := .slice A18 l18.length k18) rfl rfl rfl (go1 (j := 16) (t := 267) rfl (by kernel_rfl) rfl (Eq.trans rfl (vb c61))) (Eq.trans (S47 18 rfl) h18) ?_
       obtain ⟨c62, h⟩ := ify h
       replace c62 := bnd c62
       obtain ⟨ad63, ead63, xad63⟩ := at_int_on (On.adv C18 (below_step bb47 bb58)) 0 c62.1 (by have := c62.2; omega)
       refine ix_ (q := 0) laws_FnSumsMade.u24 laws_FnSumsMade.z24 rfl rfl rfl rfl (go1 (j := 16) (t := 267) rfl (by kernel_rfl) rfl (Eq.trans rfl (vb c61))) rfl rfl ead63 c62 ?_
       refine ld_ (v := .int .i64 (rd l18 0)) rfl rfl rfl (go1 (j := 16) (t := 267) rfl (by kernel_rfl) rfl (Eq.trans rfl (vb c61))) rfl (load_i laws_FnSumsMade.u3 (xad63 _ (Below.refl _ _))) ?_
       refine mv_ (v := .int .i64 a14) rfl rfl rfl (go1 (j := 16) (t := 267) rfl (by kernel_rfl) rfl (Eq.trans rfl (vb c61))) (Eq.trans (S47 14 rfl) h14) ?_
       refine bi_ (v := .int .i64 (wrap64 (a14 + 1))) rfl rfl rfl rfl (go1 (j := 16) (t := 267) rfl (by kernel_rfl) rfl (Eq.trans rfl (vb c61))) rfl rfl (i_add rfl) ?_
       refine bi_ (v := .bool (((rd l18 0) != (wrap64 (a14 + 1))))) rfl rfl rfl rfl (go1 (j := 16) (t := 267) rfl (by kernel_rfl) rfl (Eq.trans rfl (vb c61))) rfl rfl (i_neq rfl) ?_
       refine pk_ (b := true) (v := .bool ((rd l18 0) != (wrap64 (a14 + 1)))) rfl rfl rfl rfl rfl (go1 (j := 12) (t := 263) rfl (by kernel_rfl) rfl rfl) (Eq.trans rfl (vb c61)) rfl ?_
       refine wpList_nil ?_
       exact then_n ⟨_, rfl, (Same.put (Same.put (Same.put (Same.put (Same.put (Same.put (Same.put (Same.refl _ _) rfl) rfl) rfl) rfl) rfl) rfl) rfl), (Eq.trans rfl (vb (Option.some.inj h))), rfl, (Below.refl _ _)⟩
     refine skp (no1 (j := 16) (t := 267) rfl (by kernel_rfl) rfl (Eq.trans rfl (vb c61)) rfl) rfl ?_
     refine skp (no1 (j := 16) (t := 267) rfl (by kernel_rfl) rfl (Eq.trans rfl (vb c61)) rfl) rfl ?_
     refine skp (no1 (j := 16) (t := 267) rfl (by kernel_rfl) rfl (Eq.trans rfl (vb c61)) rfl) rfl ?_
     refine skp (no1 (j := 16) (t := 267) rfl (by kernel_rfl) rfl (Eq.trans rfl (vb c61)) rfl) rfl ?_
     refine skp (no1 (j := 16) (t := 267) rfl (by kernel_rfl) rfl (Eq.trans rfl (vb c61)) rfl) rfl ?_
     refine skp (no1 (j := 16) (t := 267) rfl (by kernel_rfl) rfl (Eq.trans rfl (vb c61)) rfl) rfl ?_
     refine pk_ (b := false) (v := .bool false) rfl rfl rfl rfl rfl (go1 (j := 12) (t := 263) rfl (by kernel_rfl) rfl rfl) (Eq.trans rfl (vb c61)) rfl ?_
     refine wpList_nil ?_
     exact then_n ⟨_, rfl, (Same.put (Same.put (Same.put (Same.put (Same.put (Same.put (Same.put (Same.refl _ _) rfl) rfl) rfl) rfl) rfl) rfl) rfl), (Eq.trans rfl (vb (Option.some.inj h))), rfl, (Below.refl _ _)⟩
   clear e60; rintro g60 w60 ⟨S60, x60_274, x60_263, bb60⟩
   refine pk_ (b := false) (v := .bool false) rfl rfl rfl rfl rfl (go0 rfl) x60_263 x60_274 ?_
   refine m0 (.bool false) rfl rfl rfl rfl rfl ?_
   refine mv_ (v := .slice A18 l18.length k18) rfl rfl rfl (go1 (j := 25) (t := 276) rfl (by kernel_rfl) rfl rfl) (Eq.trans (S60 18 rfl) (Eq.trans (S47 18 rfl) h18)) ?_
   refine ln_ laws_FnSumsMade.u24 rfl rfl rfl (go1 (j := 25) (t := 276) rfl (by kernel_rfl) rfl rfl) rfl ?_
   refine bi_ (v := .bool (((l18.length : Int) == 0))) rfl rfl rfl rfl (go1 (j := 25) (t := 276) rfl (by kernel_rfl) rfl rfl) rfl rfl (i_eql rfl) ?_
   refine mv_ (v := .bool ((l18.length : Int) == 0)) rfl rfl rfl (go1 (j := 25) (t := 276) rfl (by kernel_rfl) rfl rfl) rfl ?_
   obtain ⟨d64, e64, h⟩ := bind_ h
   replace h := ifn h
   obtain ⟨y64, h⟩ := h
   subst y64
   refine cut_ 4 (fun f g w' => Same 58 f g ∧ g 284 = .bool false ∧ g 276 = .bool false ∧ Below w60.heap.size w60 w') ?_ ?_
   · clear h; have h := e64; clear e64
     rcases ifs h with ⟨c65, h⟩ | ⟨c65, h⟩
     · refine mv_ (v := .int .i64 a14) rfl rfl rfl (go1 (j := 29) (t := 280) rfl (by kernel_rfl) rfl (Eq.trans rfl (vb c65))) (Eq.trans (S60 14 rfl) (Eq.trans (S47 14 rfl) h14)) ?_
       refine mv_ (v := .int .i64 a22) rfl rfl rfl (go1 (j := 29) (t := 280) rfl (by kernel_rfl) rfl (Eq.trans rfl (vb c65))) (Eq.trans (S60 22 rfl) (Eq.trans (S47 22 rfl) h22)) ?_
       refine bi_ (v := .bool ((a14 != a22))) rfl rfl rfl rfl (go1 (j := 29) (t := 280) rfl (by kernel_rfl) rfl (Eq.trans rfl (vb c65))) rfl rfl (i_neq rfl) ?_
       refine pk_ (b := true) (v := .bool (a14 != a22)) rfl rfl rfl rfl rfl (go1 (j := 25) (t := 276) rfl (by kernel_rfl) rfl rfl) (Eq.trans rfl (vb c65)) rfl ?_
       refine wpList_nil ?_
       exact then_n ⟨_, rfl, (Same.put (Same.put (Same.put (Same.put (Same.refl _ _) rfl) rfl) rfl) rfl), (Eq.trans rfl (vb (Option.some.inj h))), rfl, (Below.refl _ _)⟩
     refine skp (no1 (j := 29) (t := 280) rfl (by kernel_rfl) rfl (Eq.trans rfl (vb c65)) rfl) rfl ?_
     refine skp (no1 (j := 29) (t := 280) rfl (by kernel_rfl) rfl (Eq.trans rfl (vb c65)) rfl) rfl ?_
     refine skp (no1 (j := 29) (t := 280) rfl (by kernel_rfl) rfl (Eq.trans rfl (vb c65)) rfl) rfl ?_
     refine pk_ (b := false) (v := .bool false) rfl rfl rfl rfl rfl (go1 (j := 25) (t := 276) rfl (by kernel_rfl) rfl rfl) (Eq.trans rfl (vb c65)) rfl ?_
     refine wpList_nil ?_
     exact then_n ⟨_, rfl, (Same.put (Same.put (Same.put (Same.put (Same.refl _ _) rfl) rfl) rfl) rfl), (Eq.trans rfl (vb (Option.some.inj h))), rfl, (Below.refl _ _)⟩
   clear e64; rintro g64 w64 ⟨S64, x64_284, x64_276, bb64⟩
   refine pk_ (b := false) (v := .bool false) rfl rfl rfl rfl rfl (go0 rfl) x64_276 x64_284 ?_
   refine nilt ?_
   refine cF ?_ rfl rfl
   refine wp_skip ?_
   refine then_n ?_
   refine wp_seq ?_
   refine wp_region_lit ?_
   refine m0 (.slice A18 l18.length k18) rfl rfl rfl rfl (Eq.trans (S64 18 rfl) (Eq.trans (S60 18 rfl) (Eq.trans (S47 18 rfl) h18))) ?_
   refine ln_ laws_FnSumsMade.u24 rfl rfl rfl (go0 rfl) rfl ?_
   refine m0 (.int .i64 0) rfl rfl rfl rfl rfl ?_
   refine nilt ?_
   refine wp_block ?_
   exact head_loop (laws_FnSumsMade.w66 k r ws k _ _ A1 k1 l1 (Eq.trans (S64 1 rfl) (Eq.trans (S60 1 rfl) (Eq.trans (S47 1 rfl) h1))) q1 (On.adv C1 (below_step (below_step (below_step bb47 bb58) bb60) bb64)) A5 k5 l5 (Eq.trans (S64 5 rfl) (Eq.trans (S60 5 rfl) (Eq.trans (S47 5 rfl) h5))) q5 (On.adv C5 (below_step (below_step (below_step bb47 bb58) bb60) bb64)) A6 k6 l6 (Eq.trans (S64 6 rfl) (Eq.trans (S60 6 rfl) (Eq.trans (S47 6 rfl) h6))) q6 (On.adv C6 (below_step (below_step (below_step bb47 bb58) bb60) bb64)) b7 (Eq.trans (S64 7 rfl) (Eq.trans (S60 7 rfl) (Eq.trans (S47 7 rfl) h7))) a10 (Eq.trans (S64 10 rfl) (Eq.trans (S60 10 rfl) (Eq.trans (S47 10 rfl) h10))) A18 k18 l18 (Eq.trans (S64 18 rfl) (Eq.trans (S60 18 rfl) (Eq.trans (S47 18 rfl) h18))) q18 (On.adv C18 (below_step (below_step (below_step bb47 bb58) bb60) bb64)) a22 (Eq.trans (S64 22 rfl) (Eq.trans (S60 22 rfl) (Eq.trans (S47 22 rfl) h22))) A26 k26 l26 (Eq.trans (S64 26 rfl) (Eq.trans (S60 26 rfl) (Eq.trans (S47 26 rfl) h26))) q26 (On.adv C26 (below_step (below_step (below_step bb47 bb58) bb60) bb64)) b27 (Eq.trans (S64 27 rfl) (Eq.trans (S60 27 rfl) (Eq.trans (S47 27 rfl) h27))) A18 k18 l18 rfl q18 (On.adv C18 (below_step (below_step (below_step bb47 bb58) bb60) bb64)) (l18.length : Int) rfl 0 rfl (below_step B0 (below_step (below_step (below_step bb47 bb58) bb60) bb64)) h)
 refine cF ?_ (Eq.trans rfl (vb c56)) rfl
 refine wp_skip ?_
 refine then_n ?_
 exact laws_FnSumsMade.w73 k r ws _ _ A1 k1 l1 (Eq.trans (S47 1 rfl) h1) q1 (On.adv C1 bb47) A5 k5 l5 (Eq.trans (S47 5 rfl) h5) q5 (On.adv C5 bb47) A6 k6 l6 (Eq.trans (S47 6 rfl) h6) q6 (On.adv C6 bb47) b7 (Eq.trans (S47 7 rfl) h7) a10 (Eq.trans (S47 10 rfl) h10) a22 (Eq.trans (S47 22 rfl) h22) A26 k26 l26 (Eq.trans (S47 26 rfl) h26) q26 (On.adv C26 bb47) b27 (Eq.trans (S47 27 rfl) h27) (below_step B0 bb47) h
def laws_FnSumsMade.p11 (k : Nat) (l1 : List Int) (l5 : List Int) (l6 : List Int) (b7 : Bool) (l8 : List Int) (b9 : Bool) (a10 : Int) (b11 : Bool) (a12 : Int) (b13 : Bool) (a14 : Int) (b15 : Bool) (a16 : Int) (b17 : Bool) : Option Bool := (impl_GapsOf.f k l5).bind fun t12 => (spec_GapsOf.f k l5).bind fun t13 => (impl_SumOfPieces.f k l5).bind fun t14 => (spec_SumOfPieces.f k l5).bind fun t15 => (impl_HalfOf.f k l5).bind fun t16 => (spec_HalfOf.f k l5).bind fun t17 => if (b7 != b9) = true then none else (laws_tSame.f k l6 l8).bind fun r19_0 => if (!r19_0) = true then none else if (b11 != b13) = true then none else if (a10 != a12) = true then none else if (b15 != b17) = true then none else if (a14 != a16) = true then none else if (t12.2 != t13.2) = true then none else (laws_tSame.f k t12.1 t13.1).bind fun r26_0 => if (!r26_0) = true then none else if (t14.2 != t15.2) = true then none else if (t14.1 != t15.1) = true then none else if (t16.2 != t17.2) = true then none else (laws_tSame.f k t16.1 t17.1).bind fun r31_0 => if (!r31_0) = true then none else (impl_ArePieces.f k l5).bind fun r33_0 => if (b11 != r33_0) = true then none else (impl_ArePieces.f k l5).bind fun r35_0 => (spec_ArePieces.f k l5).bind fun r36_0 => if (r35_0 != r36_0) = true then none else if (b15 != b11) = true then none else if (t14.2 != b11) = true then none else (if b7 = true then (some (!b11)) else (some false)).bind fun d40 => if d40 = true then none else (if t12.2 = true then (some (!b11)) else (some false)).bind fun d42 => if d42 = true then none else (if t16.2 = true then (some (!b11)) else (some false)).bind fun d44 => if d44 = true then none else laws_FnSumsMade.p46 k l1 l5 l6 b7 a10 b11 a14 t12.1 t12.2 t14.1 t16.1 t16.2
theorem laws_FnSumsMade.w11 (k : Nat) (r : Bool) (ws : World) (f0 : Nat → Value) (w0 : World) (A1 : Option Addr) (k1 : Nat) (l1 : List Int) (h1 : f0 1 = .slice A1 l1.length k1) (q1 : l1.length ≤ k1) (C1 : On w0 fun x => Kd.C (Kd.int .u8) x A1 l1.length l1) (A5 : Option Addr) (k5 : Nat) (l5 : List Int) (h5 : f0 5 = .slice A5 l5.length k5) (q5 : l5.length ≤ k5) (C5 : On w0 fun x => Kd.C (Kd.int .i64) x A5 l5.length l5) (A6 : Option Addr) (k6 : Nat) (l6 : List Int) (h6 : f0 6 = .slice A6 l6.length k6) (q6 : l6.length ≤ k6) (C6 : On w0 fun x => Kd.C (Kd.int .i64) x A6 l6.length l6) (b7 : Bool) (h7 : f0 7 = .bool b7) (A8 : Option Addr) (k8 : Nat) (l8 : List Int) (h8 : f0 8 = .slice A8 l8.length k8) (q8 : l8.length ≤ k8) (C8 : On w0 fun x => Kd.C (Kd.int .i64) x A8 l8.length l8) (b9 : Bool) (h9 : f0 9 = .bool b9) (a10 : Int) (h10 : f0 10 = .int .i64 a10) (b11 : Bool) (h11 : f0 11 = .bool b11) (a12 : Int) (h12 : f0 12 = .int .i64 a12) (b13 : Bool) (h13 : f0 13 = .bool b13) (a14 : Int) (h14 : f0 14 = .int .i64 a14) (b15 : Bool) (h15 : f0 15 = .bool b15) (a16 : Int) (h16 : f0 16 = .int .i64 a16) (b17 : Bool) (h17 : f0 17 = .bool b17) (B0 : Below ws.heap.size ws w0) (h : laws_FnSumsMade.p11 k l1 l5 l6 b7 l8 b9 a10 b11 a12 b13 a14 b15 a16 b17 = some r) : Code.wp Try.prog (srn 9 laws_FnSumsMade.B) (laws_FnSumsMade.Q0 ws r) (fr 533 f0) w0 := by
 unfold laws_FnSumsMade.p11 at h
 refine wp_seq ?_
 refine wp_region_lit ?_
 refine m0 (.slice A5 l5.length k5) rfl rfl rfl rfl h5 ?_
 obtain ⟨⟨r12_1, r12_2⟩, e12, h⟩ := bind_ h
 refine cl_ Try.func31 (by kernel_rfl) rfl rfl rfl rfl (go0 rfl) (argc (v := .slice A5 l5.length k5) rfl argn) ?_
 refine (impl_GapsOf.calls k A5 k5 l5 _ _ _ (C5 _ (Below.refl _ _)) q5 e12).mono ?_
 rintro e w12 ⟨u12_0, rfl, ou12_0, bb12⟩
 obtain ⟨Au12_0, ku12_0, xu12_0, qu12_0, Cu12_0⟩ := R3 ou12_0; subst xu12_0
 refine ⟨_, rfl, ?_⟩
 refine m0 (.tuple #[.slice Au12_0 r12_1.length ku12_0, .bool r12_2]) rfl rfl rfl rfl rfl ?_
 refine x0 (.slice Au12_0 r12_1.length ku12_0) rfl rfl rfl rfl rfl rfl ?_
 refine x0 (.bool r12_2) rfl rfl rfl rfl rfl rfl ?_
 refine a0 (.slice Au12_0 r12_1.length ku12_0) rfl rfl rfl rfl rfl ?_
 refine a0 (.bool r12_2) rfl rfl rfl rfl rfl ?_
 refine nilt ?_
 refine wp_seq ?_
 refine wp_region_lit ?_
 refine m0 (.slice A5 l5.length k5) rfl rfl rfl rfl h5 ?_
 obtain ⟨⟨r13_1, r13_2⟩, e13, h⟩ := bind_ h
 refine cl_ Try.func32 (by kernel_rfl) rfl rfl rfl rfl (go0 rfl) (argc (v := .slice A5 l5.length k5) rfl argn) ?_
 refine (spec_GapsOf.calls k A5 k5 l5 _ _ _ (C5 _ bb12) q5 e13).mono ?_
 rintro e w13 ⟨u13_0, rfl, ou13_0, bb13⟩
 obtain ⟨Au13_0, ku13_0, xu13_0, qu13_0, Cu13_0⟩ := R3 ou13_0; subst xu13_0
 refine ⟨_, rfl, ?_⟩
 refine m0 (.tuple #[.slice Au13_0 r13_1.length ku13_0, .bool r13_2]) rfl rfl rfl rfl rfl ?_
 refine x0 (.slice Au13_0 r13_1.length ku13_0) rfl rfl rfl rfl rfl rfl ?_
 refine x0 (.bool r13_2) rfl rfl rfl rfl rfl rfl ?_
 refine a0 (.slice Au13_0 r13_1.length ku13_0) rfl rfl rfl rfl rfl ?_
 refine a0 (.bool r13_2) rfl rfl rfl rfl rfl ?_
 refine nilt ?_
 refine wp_seq ?_
 refine wp_region_lit ?_
 refine m0 (.slice A5 l5.length k5) rfl rfl rfl rfl h5 ?_
 obtain ⟨⟨r14_1, r14_2⟩, e14, h⟩ := bind_ h
 refine cl_ Try.func33 (by kernel_rfl) rfl rfl rfl rfl (go0 rfl) (argc (v := .slice A5 l5.length k5) rfl argn) ?_
 refine (impl_SumOfPieces.calls k A5 k5 l5 _ _ _ (C5 _ (below_step bb12 bb13)) q5 e14).mono ?_
 rintro e w14 ⟨rfl, bb14⟩
 refine ⟨_, rfl, ?_⟩
 refine m0 (.tuple #[.int .i64 r14_1, .bool r14_2]) rfl rfl rfl rfl rfl ?_
 refine x0 (.int .i64 r14_1) rfl rfl rfl rfl rfl rfl ?_
 refine x0 (.bool r14_2) rfl rfl rfl rfl rfl rfl ?_
 refine a0 (.int .i64 r14_1) rfl rfl rfl rfl rfl ?_
 refine a0 (.bool r14_2) rfl rfl rfl rfl rfl ?_
 refine nilt ?_
 refine wp_seq ?_
 refine wp_region_lit ?_
 refine m0 (.slice A5 l5.length k5) rfl rfl rfl rfl h5 ?_
 obtain ⟨⟨r15_1, r15_2⟩, e15, h⟩ := bind_ h
 refine cl_ Try.func34 (by kernel_rfl) rfl rfl rfl rfl (go0 rfl) (argc (v := .slice A5 l5.length k5) rfl argn) ?_
 refine (spec_SumOfPieces.calls k A5 k5 l5 _ _ _ (C5 _ (below_step (below_step bb12 bb13) bb14)) q5 e15).mono ?_
 rintro e w15 ⟨rfl, d15⟩
 have bb15 := Drawn0.below d15
 refine ⟨_, rfl, ?_⟩
 refine m0 (.tuple #[.int .i64 r15_1, .bool r15_2]) rfl rfl rfl rfl rfl ?_
 refine x0 (.int .i64 r15_1) rfl rfl rfl rfl rfl rfl ?_
 refine x0 (.bool r15_2) rfl rfl rfl rfl rfl rfl ?_
 refine a0 (.int .i64 r15_1) rfl rfl rfl rfl rfl ?_
 refine a0 (.bool r15_2) rfl rfl rfl rfl rfl ?_
 refine nilt ?_
 refine wp_seq ?_
 refine wp_region_lit ?_
 refine m0 (.slice A5 l5.length k5) rfl rfl rfl rfl h5 ?_
 obtain ⟨⟨r16_1, r16_2⟩, e16, h⟩ := bind_ h
 refine cl_ Try.func35 (by kernel_rfl) rfl rfl rfl rfl (go0 rfl) (argc (v := .slice A5 l5.length k5) rfl argn) ?_
 refine (impl_HalfOf.calls k A5 k5 l5 _ _ _ (C5 _ (below_step (below_step (below_step bb12 bb13) bb14) bb15)) q5 e16).mono ?_
 rintro e w16 ⟨u16_0, rfl, ou16_0, bb16⟩
 obtain ⟨Au16_0, ku16_0, xu16_0, qu16_0, Cu16_0⟩ := R3 ou16_0; subst xu16_0
 refine ⟨_, rfl, ?_⟩
 refine m0 (.tuple #[.slice Au16_0 r16_1.length ku16_0, .bool r16_2]) rfl rfl rfl rfl rfl ?_
 refine x0 (.slice Au16_0 r16_1.length ku16_0) rfl rfl rfl rfl rfl rfl ?_
 refine x0 (.bool r16_2) rfl rfl rfl rfl rfl rfl ?_
 refine a0 (.slice Au16_0 r16_1.length ku16_0) rfl rfl rfl rfl rfl ?_
 refine a0 (.bool r16_2) rfl rfl rfl rfl rfl ?_
 refine nilt ?_
 refine wp_seq ?_
 refine wp_region_lit ?_
 refine m0 (.slice A5 l5.length k5) rfl rfl rfl rfl h5 ?_
 obtain ⟨⟨r17_1, r17_2⟩, e17, h⟩ := bind_ h
 refine cl_ Try.func36 (by kernel_rfl) rfl rfl rfl rfl (go0 rfl) (argc (v := .slice A5 l5.length k5) rfl argn) ?_
 refine (spec_HalfOf.calls k A5 k5 l5 _ _ _ (C5 _ (below_step (below_step (below_step (below_step bb12 bb13) bb14) bb15) bb16)) q5 e17).mono ?_
 rintro e w17 ⟨u17_0, rfl, ou17_0, bb17⟩
 obtain ⟨Au17_0, ku17_0, xu17_0, qu17_0, Cu17_0⟩ := R3 ou17_0; subst xu17_0
 refine ⟨_, rfl, ?_⟩
 refine m0 (.tuple #[.slice Au17_0 r17_1.length ku17_0, .bool r17_2]) rfl rfl rfl rfl rfl ?_
 refine x0 (.slice Au17_0 r17_1.length ku17_0) rfl rfl rfl rfl rfl rfl ?_
 refine x0 (.bool r17_2) rfl rfl rfl rfl rfl rfl ?_
 refine a0 (.slice Au17_0 r17_1.length ku17_0) rfl rfl rfl rfl rfl ?_
 refine a0 (.bool r17_2) rfl rfl rfl rfl rfl ?_
 refine nilt ?_
 refine wp_seq ?_
 refine wp_seq ?_
 refine wp_region_lit ?_
 refine m0 (.bool b7) rfl rfl rfl rfl h7 ?_
 refine m0 (.bool b9) rfl rfl rfl rfl h9 ?_
 obtain ⟨c18, h⟩ := ifn h
 refine bb_ (v := .bool (false)) rfl rfl rfl rfl (go0 rfl) rfl rfl (b_neq laws_FnSumsMade.u4 c18) ?_
 refine m0 (.bool false) rfl rfl rfl rfl rfl ?_
 refine mv_ (v := .slice A6 l6.length k6) rfl rfl rfl (go1 (j := 3) (t := 126) rfl (by kernel_rfl) rfl rfl) h6 ?_
 refine mv_ (v := .slice A8 l8.length k8) rfl rfl rfl (go1 (j := 3) (t := 126) rfl (by kernel_rfl) rfl rfl) h8 ?_
 obtain ⟨r19_0, e19, h⟩ := bind_ h
 refine cl_ Try.func11 (by kernel_rfl) rfl rfl rfl rfl (go1 (j := 3) (t := 126) rfl (by kernel_rfl) rfl rfl) (argc (v := .slice A6 l6.length k6) rfl (argc (v := .slice A8 l8.length k8) rfl argn)) ?_
 refine (laws_tSame.calls k A6 k6 l6 A8 k8 l8 _ _ (C6 _ (below_step (below_step (below_step (below_step (below_step bb12 bb13) bb14) bb15) bb16) bb17)) q6 (C8 _ (below_step (below_step (below_step (below_step (below_step bb12 bb13) bb14) bb15) bb16) bb17)) q8 e19).mono ?_
 rintro e w19 ⟨rfl, d19⟩
 have bb19 := Drawn0.below d19
 refine ⟨_, rfl, ?_⟩
 obtain ⟨c20, h⟩ := ifn h
 refine nt_ (c := false) rfl rfl rfl (go1 (j := 3) (t := 126) rfl (by kernel_rfl) rfl rfl) rfl c20 ?_
 refine pk_ (b := false) (v := .bool false) rfl rfl rfl rfl rfl (go0 rfl) rfl rfl ?_
 refine m0 (.bool false) rfl rfl rfl rfl rfl ?_
 refine mv_ (v := .bool b11) rfl rfl rfl (go1 (j := 9) (t := 132) rfl (by kernel_rfl) rfl rfl) h11 ?_
 refine mv_ (v := .bool b13) rfl rfl rfl (go1 (j := 9) (t := 132) rfl (by kernel_rfl) rfl rfl) h13 ?_
 obtain ⟨c21, h⟩ := ifn h
 refine bb_ (v := .bool (false)) rfl rfl rfl rfl (go1 (j := 9) (t := 132) rfl (by kernel_rfl) rfl rfl) rfl rfl (b_neq laws_FnSumsMade.u4 c21) ?_
 refine pk_ (b := false) (v := .bool false) rfl rfl rfl rfl rfl (go0 rfl) rfl rfl ?_
 refine m0 (.bool false) rfl rfl rfl rfl rfl ?_
 refine mv_ (v := .int .i64 a10) rfl rfl rfl (go1 (j := 14) (t := 137) rfl (by kernel_rfl) rfl rfl) h10 ?_
 refine mv_ (v := .int .i64 a12) rfl rfl rfl (go1 (j := 14) (t := 137) rfl (by kernel_rfl) rfl rfl) h12 ?_
 obtain ⟨c22, h⟩ := ifn h
 refine bi_ (v := .bool (false)) rfl rfl rfl rfl (go1 (j := 14) (t := 137) rfl (by kernel_rfl) rfl rfl) rfl rfl (i_neq c22) ?_
 refine pk_ (b := false) (v := .bool false) rfl rfl rfl rfl rfl (go0 rfl) rfl rfl ?_
 refine m0 (.bool false) rfl rfl rfl rfl rfl ?_
 refine mv_ (v := .bool b15) rfl rfl rfl (go1 (j := 19) (t := 142) rfl (by kernel_rfl) rfl rfl) h15 ?_
 refine mv_ (v := .bool b17) rfl rfl rfl (go1 (j := 19) (t := 142) rfl (by kernel_rfl) rfl rfl) h17 ?_
 obtain ⟨c23, h⟩ := ifn h
 refine bb_ (v := .bool (false)) rfl rfl rfl rfl (go1 (j := 19) (t := 142) rfl (by kernel_rfl) rfl rfl) rfl rfl (b_neq laws_FnSumsMade.u4 c23) ?_
 refine pk_ (b := false) (v := .bool false) rfl rfl rfl rfl rfl (go0 rfl) rfl rfl ?_
 refine m0 (.bool false) rfl rfl rfl rfl rfl ?_
 refine mv_ (v := .int .i64 a14) rfl rfl rfl (go1 (j := 24) (t := 147) rfl (by kernel_rfl) rfl rfl) h14 ?_
 refine mv_ (v := .int .i64 a16) rfl rfl rfl (go1 (j := 24) (t := 147) rfl (by kernel_rfl) rfl rfl) h16 ?_
 obtain ⟨c24, h⟩ := ifn h
 refine bi_ (v := .bool (false)) rfl rfl rfl rfl (go1 (j := 24) (t := 147) rfl (by kernel_rfl) rfl rfl) rfl rfl (i_neq c24) ?_
 refine pk_ (b := false) (v := .bool false) rfl rfl rfl rfl rfl (go0 rfl) rfl rfl ?_
 refine m0 (.bool false) rfl rfl rfl rfl rfl ?_
 refine mv_ (v := .bool r12_2) rfl rfl rfl (go1 (j := 29) (t := 152) rfl (by kernel_rfl) rfl rfl) rfl ?_
 refine mv_ (v := .bool r13_2) rfl rfl rfl (go1 (j := 29) (t := 152) rfl (by kernel_rfl) rfl rfl) rfl ?_
 obtain ⟨c25, h⟩ := ifn h
 refine bb_ (v := .bool (false)) rfl rfl rfl rfl (go1 (j := 29) (t := 152) rfl (by kernel_rfl) rfl rfl) rfl rfl (b_neq laws_FnSumsMade.u4 c25) ?_
 refine pk_ (b := false) (v := .bool false) rfl rfl rfl rfl rfl (go0 rfl) rfl rfl ?_
 refine m0 (.bool false) rfl rfl rfl rfl rfl ?_
 refine mv_ (v := .slice Au12_0 r12_1.length ku12_0) rfl rfl rfl (go1 (j := 34) (t := 157) rfl (by kernel_rfl) rfl rfl) rfl ?_
 refine mv_ (v := .slice Au13_0 r13_1.length ku13_0) rfl rfl rfl (go1 (j := 34) (t := 157) rfl (by kernel_rfl) rfl rfl) rfl ?_
 obtain ⟨r26_0, e26, h⟩ := bind_ h
 refine cl_ Try.func11 (by kernel_rfl) rfl rfl rfl rfl (go1 (j := 34) (t := 157) rfl (by kernel_rfl) rfl rfl) (argc (v := .slice Au12_0 r12_1.length ku12_0) rfl (argc (v := .slice Au13_0 r13_1.length ku13_0) rfl argn)) ?_
 refine (laws_tSame.calls k Au12_0 ku12_0 r12_1 Au13_0 ku13_0 r13_1 _ _ (Cu12_0 _ (below_step (below_step (below_step (below_step (below_step bb13 bb14) bb15) bb16) bb17) bb19)) qu12_0 (Cu13_0 _ (below_step (below_step (below_step (below_step bb14 bb15) bb16) bb17) bb19)) qu13_0 e26).mono ?_
 rintro e w26 ⟨rfl, d26⟩
 have bb26 := Drawn0.below d26
 refine ⟨_, rfl, ?_⟩
 obtain ⟨c27, h⟩ := ifn h
 refine nt_ (c := false) rfl rfl rfl (go1 (j := 34) (t := 157) rfl (by kernel_rfl) rfl rfl) rfl c27 ?_
 refine pk_ (b := false) (v := .bool false) rfl rfl rfl rfl rfl (go0 rfl) rfl rfl ?_
 refine m0 (.bool false) rfl rfl rfl rfl rfl ?_
 refine mv_ (v := .bool r14_2) rfl rfl rfl (go1 (j := 40) (t := 163) rfl (by kernel_rfl) rfl rfl) rfl ?_
 refine mv_ (v := .bool r15_2) rfl rfl rfl (go1 (j := 40) (t := 163) rfl (by kernel_rfl) rfl rfl) rfl ?_
 obtain ⟨c28, h⟩ := ifn h
 refine bb_ (v := .bool (false)) rfl rfl rfl rfl (go1 (j := 40) (t := 163) rfl (by kernel_rfl) rfl rfl) rfl rfl (b_neq laws_FnSumsMade.u4 c28) ?_
 refine pk_ (b := false) (v := .bool false) rfl rfl rfl rfl rfl (go0 rfl) rfl rfl ?_
 refine m0 (.bool false) rfl rfl rfl rfl rfl ?_
 refine mv_ (v := .int .i64 r14_1) rfl rfl rfl (go1 (j := 45) (t := 168) rfl (by kernel_rfl) rfl rfl) rfl ?_
 refine mv_ (v := .int .i64 r15_1) rfl rfl rfl (go1 (j := 45) (t := 168) rfl (by kernel_rfl) rfl rfl) rfl ?_
 obtain ⟨c29, h⟩ := ifn h
 refine bi_ (v := .bool (false)) rfl rfl rfl rfl (go1 (j := 45) (t := 168) rfl (by kernel_rfl) rfl rfl) rfl rfl (i_neq c29) ?_
 refine pk_ (b := false) (v := .bool false) rfl rfl rfl rfl rfl (go0 rfl) rfl rfl ?_
 refine m0 (.bool false) rfl rfl rfl rfl rfl ?_
 refine mv_ (v := .bool r16_2) rfl rfl rfl (go1 (j := 50) (t := 173) rfl (by kernel_rfl) rfl rfl) rfl ?_
 refine mv_ (v := .bool r17_2) rfl rfl rfl (go1 (j := 50) (t := 173) rfl (by kernel_rfl) rfl rfl) rfl ?_
 obtain ⟨c30, h⟩ := ifn h
 refine bb_ (v := .bool (false)) rfl rfl rfl rfl (go1 (j := 50) (t := 173) rfl (by kernel_rfl) rfl rfl) rfl rfl (b_neq laws_FnSumsMade.u4 c30) ?_
 refine pk_ (b := false) (v := .bool false) rfl rfl rfl rfl rfl (go0 rfl) rfl rfl ?_
 refine m0 (.bool false) rfl rfl rfl rfl rfl ?_
 refine mv_ (v := .slice Au16_0 r16_1.length ku16_0) rfl rfl rfl (go1 (j := 55) (t := 178) rfl (by kernel_rfl) rfl rfl) rfl ?_
 refine mv_ (v := .slice Au17_0 r17_1.length ku17_0) rfl rfl rfl (go1 (j := 55) (t := 178) rfl (by kernel_rfl) rfl rfl) rfl ?_
 obtain ⟨r31_0, e31, h⟩ := bind_ h
 refine cl_ Try.func11 (by kernel_rfl) rfl rfl rfl rfl (go1 (j := 55) (t := 178) rfl (by kernel_rfl) rfl rfl) (argc (v := .slice Au16_0 r16_1.length ku16_0) rfl (argc (v := .slice Au17_0 r17_1.length ku17_0) rfl argn)) ?_
 refine (laws_tSame.calls k Au16_0 ku16_0 r16_1 Au17_0 ku17_0 r17_1 _ _ (Cu16_0 _ (below_step (below_step bb17 bb19) bb26)) qu16_0 (Cu17_0 _ (below_step bb19 bb26)) qu17_0 e31).mono ?_
 rintro e w31 ⟨rfl, d31⟩
 have bb31 := Drawn0.below d31
 refine ⟨_, rfl, ?_⟩
 obtain ⟨c32, h⟩ := ifn h
 refine nt_ (c := false) rfl rfl rfl (go1 (j := 55) (t := 178) rfl (by kernel_rfl) rfl rfl) rfl c32 ?_
 refine pk_ (b := false) (v := .bool false) rfl rfl rfl rfl rfl (go0 rfl) rfl rfl ?_
 refine m0 (.bool false) rfl rfl rfl rfl rfl ?_
 refine mv_ (v := .bool b11) rfl rfl rfl (go1 (j := 61) (t := 184) rfl (by kernel_rfl) rfl rfl) h11 ?_
 refine mv_ (v := .slice A5 l5.length k5) rfl rfl rfl (go1 (j := 61) (t := 184) rfl (by kernel_rfl) rfl rfl) h5 ?_
 obtain ⟨r33_0, e33, h⟩ := bind_ h
 refine cl_ Try.func37 (by kernel_rfl) rfl rfl rfl rfl (go1 (j := 61) (t := 184) rfl (by kernel_rfl) rfl rfl) (argc (v := .slice A5 l5.length k5) rfl argn) ?_
 refine (impl_ArePieces.calls k A5 k5 l5 _ _ (C5 _ (below_step (below_step (below_step (below_step (below_step (below_step (below_step (below_step bb12 bb13) bb14) bb15) bb16) bb17) bb19) bb26) bb31)) q5 e33).mono ?_
 rintro e w33 ⟨rfl, bb33⟩
 refine ⟨_, rfl, ?_⟩
 obtain ⟨c34, h⟩ := ifn h
 refine bb_ (v := .bool (false)) rfl rfl rfl rfl (go1 (j := 61) (t := 184) rfl (by kernel_rfl) rfl rfl) rfl rfl (b_neq laws_FnSumsMade.u4 c34) ?_
 refine pk_ (b := false) (v := .bool false) rfl rfl rfl rfl rfl (go0 rfl) rfl rfl ?_
 refine m0 (.bool false) rfl rfl rfl rfl rfl ?_
 refine mv_ (v := .slice A5 l5.length k5) rfl rfl rfl (go1 (j := 67) (t := 190) rfl (by kernel_rfl) rfl rfl) h5 ?_
 obtain ⟨r35_0, e35, h⟩ := bind_ h
 refine cl_ Try.func37 (by kernel_rfl) rfl rfl rfl rfl (go1 (j := 67) (t := 190) rfl (by kernel_rfl) rfl rfl) (argc (v := .slice A5 l5.length k5) rfl argn) ?_
 refine (impl_ArePieces.calls k A5 k5 l5 _ _ (C5 _ (below_step (below_step (below_step (below_step (below_step (below_step (below_step (below_step (below_step bb12 bb13) bb14) bb15) bb16) bb17) bb19) bb26) bb31) bb33)) q5 e35).mono ?_
 rintro e w35 ⟨rfl, bb35⟩
 refine ⟨_, rfl, ?_⟩
 refine mv_ (v := .slice A5 l5.length k5) rfl rfl rfl (go1 (j := 67) (t := 190) rfl (by kernel_rfl) rfl rfl) h5 ?_
 obtain ⟨r36_0, e36, h⟩ := bind_ h
 refine cl_ Try.func38 (by kernel_rfl) rfl rfl rfl rfl (go1 (j := 67) (t := 190) rfl (by kernel_rfl) rfl rfl) (argc (v := .slice A5 l5.length k5) rfl argn) ?_
 refine (spec_ArePieces.calls k A5 k5 l5 _ _ (C5 _ (below_step (below_step (below_step (below_step (below_step (below_step (below_step (below_step (below_step (below_step bb12 bb13) bb14) bb15) bb16) bb17) bb19) bb26) bb31) bb33) bb35)) q5 e36).mono ?_
 rintro e w36 ⟨rfl, d36⟩
 have bb36 := Drawn0.below d36
 refine ⟨_, rfl, ?_⟩
 obtain ⟨c37, h⟩ := ifn h
 refine bb_ (v := .bool (false)) rfl rfl rfl rfl (go1 (j := 67) (t := 190) rfl (by kernel_rfl) rfl rfl) rfl rfl (b_neq laws_FnSumsMade.u4 c37) ?_
 refine pk_ (b := false) (v := .bool false) rfl rfl rfl rfl rfl (go0 rfl) rfl rfl ?_
 refine m0 (.bool false) rfl rfl rfl rfl rfl ?_
 refine mv_ (v := .bool b15) rfl rfl rfl (go1 (j := 74) (t := 197) rfl (by kernel_rfl) rfl rfl) h15 ?_
 refine mv_ (v := .bool b11) rfl rfl rfl (go1 (j := 74) (t := 197) rfl (by kernel_rfl) rfl rfl) h11 ?_
 obtain ⟨c38, h⟩ := ifn h
 refine bb_ (v := .bool (false)) rfl rfl rfl rfl (go1 (j := 74) (t := 197) rfl (by kernel_rfl) rfl rfl) rfl rfl (b_neq laws_FnSumsMade.u4 c38) ?_
 refine pk_ (b := false) (v := .bool false) rfl rfl rfl rfl rfl (go0 rfl) rfl rfl ?_
 refine m0 (.bool false) rfl rfl rfl rfl rfl ?_
 refine mv_ (v := .bool r14_2) rfl rfl rfl (go1 (j := 79) (t := 202) rfl (by kernel_rfl) rfl rfl) rfl ?_
 refine mv_ (v := .bool b11) rfl rfl rfl (go1 (j := 79) (t := 202) rfl (by kernel_rfl) rfl rfl) h11 ?_
 obtain ⟨c39, h⟩ := ifn h
 refine bb_ (v := .bool (false)) rfl rfl rfl rfl (go1 (j := 79) (t := 202) rfl (by kernel_rfl) rfl rfl) rfl rfl (b_neq laws_FnSumsMade.u4 c39) ?_
 refine pk_ (b := false) (v := .bool false) rfl rfl rfl rfl rfl (go0 rfl) rfl rfl ?_
 refine m0 (.bool false) rfl rfl rfl rfl rfl ?_
 refine mv_ (v := .bool b7) rfl rfl rfl (go1 (j := 84) (t := 207) rfl (by kernel_rfl) rfl rfl) h7 ?_
 refine mv_ (v := .bool b7) rfl rfl rfl (go1 (j := 84) (t := 207) rfl (by kernel_rfl) rfl rfl) rfl ?_
 obtain ⟨d40, e40, h⟩ := bind_ h
 replace h := ifn h
 obtain ⟨y40, h⟩ := h
 subst y40
 refine cut_ 3 (fun f g w' => Same 58 f g ∧ g 212 = .bool false ∧ g 207 = .bool false ∧ Below w36.heap.size w36 w') ?_ ?_
 · clear h; have h := e40; clear e40
   rcases ifs h with ⟨c41, h⟩ | ⟨c41, h⟩
   · refine mv_ (v := .bool b11) rfl rfl rfl (go1 (j := 86) (t := 209) rfl (by kernel_rfl) rfl (Eq.trans rfl (vb c41))) h11 ?_
     refine nt_ (c := !b11) rfl rfl rfl (go1 (j := 86) (t := 209) rfl (by kernel_rfl) rfl (Eq.trans rfl (vb c41))) rfl rfl ?_
     refine pk_ (b := true) (v := .bool (!b11)) rfl rfl rfl rfl rfl (go1 (j := 84) (t := 207) rfl (by kernel_rfl) rfl rfl) (Eq.trans rfl (vb c41)) rfl ?_
     refine wpList_nil ?_
     exact then_n ⟨_, rfl, (Same.put (Same.put (Same.put (Same.refl _ _) rfl) rfl) rfl), (Eq.trans rfl (vb (Option.some.inj h))), rfl, (Below.refl _ _)⟩
   refine skp (no1 (j := 86) (t := 209) rfl (by kernel_rfl) rfl (Eq.trans rfl (vb c41)) rfl) rfl ?_
   refine skp (no1 (j := 86) (t := 209) rfl (by kernel_rfl) rfl (Eq.trans rfl (vb c41)) rfl) rfl ?_
   refine pk_ (b := false) (v := .bool false) rfl rfl rfl rfl rfl (go1 (j := 84) (t := 207) rfl (by kernel_rfl) rfl rfl) (Eq.trans rfl (vb c41)) rfl ?_
   refine wpList_nil ?_
   exact then_n ⟨_, rfl, (Same.put (Same.put (Same.put (Same.refl _ _) rfl) rfl) rfl), (Eq.trans rfl (vb (Option.some.inj h))), rfl, (Below.refl _ _)⟩
 clear e40; rintro g40 w40 ⟨S40, x40_212, x40_207, bb40⟩
 refine pk_ (b := false) (v := .bool false) rfl rfl rfl rfl rfl (go0 rfl) x40_207 x40_212 ?_
 refine m0 (.bool false) rfl rfl rfl rfl rfl ?_
 refine mv_ (v := .bool r12_2) rfl rfl rfl (go1 (j := 91) (t := 214) rfl (by kernel_rfl) rfl rfl) (Eq.trans (S40 19 rfl) rfl) ?_
 refine mv_ (v := .bool r12_2) rfl rfl rfl (go1 (j := 91) (t := 214) rfl (by kernel_rfl) rfl rfl) rfl ?_
 obtain ⟨d42, e42, h⟩ := bind_ h
 replace h := ifn h
 obtain ⟨y42, h⟩ := h
 subst y42
 refine cut_ 3 (fun f g w' => Same 58 f g ∧ g 219 = .bool false ∧ g 214 = .bool false ∧ Below w40.heap.size w40 w') ?_ ?_
 · clear h; have h := e42; clear e42
   rcases ifs h with ⟨c43, h⟩ | ⟨c43, h⟩
   · refine mv_ (v := .bool b11) rfl rfl rfl (go1 (j := 93) (t := 216) rfl (by kernel_rfl) rfl (Eq.trans rfl (vb c43))) (Eq.trans (S40 11 rfl) h11) ?_
     refine nt_ (c := !b11) rfl rfl rfl (go1 (j := 93) (t := 216) rfl (by kernel_rfl) rfl (Eq.trans rfl (vb c43))) rfl rfl ?_
     refine pk_ (b := true) (v := .bool (!b11)) rfl rfl rfl rfl rfl (go1 (j := 91) (t := 214) rfl (by kernel_rfl) rfl rfl) (Eq.trans rfl (vb c43)) rfl ?_
     refine wpList_nil ?_
     exact then_n ⟨_, rfl, (Same.put (Same.put (Same.put (Same.refl _ _) rfl) rfl) rfl), (Eq.trans rfl (vb (Option.some.inj h))), rfl, (Below.refl _ _)⟩
   refine skp (no1 (j := 93) (t := 216) rfl (by kernel_rfl) rfl (Eq.trans rfl (vb c43)) rfl) rfl ?_
   refine skp (no1 (j := 93) (t := 216) rfl (by kernel_rfl) rfl (Eq.trans rfl (vb c43)) rfl) rfl ?_
   refine pk_ (b := false) (v := .bool false) rfl rfl rfl rfl rfl (go1 (j := 91) (t := 214) rfl (by kernel_rfl) rfl rfl) (Eq.trans rfl (vb c43)) rfl ?_
   refine wpList_nil ?_
   exact then_n ⟨_, rfl, (Same.put (Same.put (Same.put (Same.refl _ _) rfl) rfl) rfl), (Eq.trans rfl (vb (Option.some.inj h))), rfl, (Below.refl _ _)⟩
 clear e42; rintro g42 w42 ⟨S42, x42_219, x42_214, bb42⟩
 refine pk_ (b := false) (v := .bool false) rfl rfl rfl rfl rfl (go0 rfl) x42_214 x42_219 ?_
 refine m0 (.bool false) rfl rfl rfl rfl rfl ?_
 refine mv_ (v := .bool r16_2) rfl rfl rfl (go1 (j := 98) (t := 221) rfl (by kernel_rfl) rfl rfl) (Eq.trans (S42 27 rfl) (Eq.trans (S40 27 rfl) rfl)) ?_
 refine mv_ (v := .bool r16_2) rfl rfl rfl (go1 (j := 98) (t := 221) rfl (by kernel_rfl) rfl rfl) rfl ?_
 obtain ⟨d44, e44, h⟩ := bind_ h
 replace h := ifn h
 obtain ⟨y44, h⟩ := h
 subst y44
 refine cut_ 3 (fun f g w' => Same 58 f g ∧ g 226 = .bool false ∧ g 221 = .bool false ∧ Below w42.heap.size w42 w') ?_ ?_
 · clear h; have h := e44; clear e44
   rcases ifs h with ⟨c45, h⟩ | ⟨c45, h⟩
   · refine mv_ (v := .bool b11) rfl rfl rfl (go1 (j := 100) (t := 223) rfl (by kernel_rfl) rfl (Eq.trans rfl (vb c45))) (Eq.trans (S42 11 rfl) (Eq.trans (S40 11 rfl) h11)) ?_
     refine nt_ (c := !b11) rfl rfl rfl (go1 (j := 100) (t := 223) rfl (by kernel_rfl) rfl (Eq.trans rfl (vb c45))) rfl rfl ?_
     refine pk_ (b := true) (v := .bool (!b11)) rfl rfl rfl rfl rfl (go1 (j := 98) (t := 221) rfl (by kernel_rfl) rfl rfl) (Eq.trans rfl (vb c45)) rfl ?_
     refine wpList_nil ?_
     exact then_n ⟨_, rfl, (Same.put (Same.put (Same.put (Same.refl _ _) rfl) rfl) rfl), (Eq.trans rfl (vb (Option.some.inj h))), rfl, (Below.refl _ _)⟩
   refine skp (no1 (j := 100) (t := 223) rfl (by kernel_rfl) rfl (Eq.trans rfl (vb c45)) rfl) rfl ?_
   refine skp (no1 (j := 100) (t := 223) rfl (by kernel_rfl) rfl (Eq.trans rfl (vb c45)) rfl) rfl ?_
   refine pk_ (b := false) (v := .bool false) rfl rfl rfl rfl rfl (go1 (j := 98) (t := 221) rfl (by kernel_rfl) rfl rfl) (Eq.trans rfl (vb c45)) rfl ?_
   refine wpList_nil ?_
   exact then_n ⟨_, rfl, (Same.put (Same.put (Same.put (Same.refl _ _) rfl) rfl) rfl), (Eq.trans rfl (vb (Option.some.inj h))), rfl, (Below.refl _ _)⟩
 clear e44; rintro g44 w44 ⟨S44, x44_226, x44_221, bb44⟩
 refine pk_ (b := false) (v := .bool false) rfl rfl rfl rfl rfl (go0 rfl) x44_221 x44_226 ?_
 refine nilt ?_
 refine cF ?_ rfl rfl
 refine wp_skip ?_
 refine then_n ?_
 exact laws_FnSumsMade.w46 k r ws _ _ A1 k1 l1 (Eq.trans (S44 1 rfl) (Eq.trans (S42 1 rfl) (Eq.trans (S40 1 rfl) h1))) q1 (On.adv C1 (below_step (below_step (below_step (below_step (below_step (below_step (below_step (below_step (below_step (below_step (below_step (below_step (below_step (below_step bb12 bb13) bb14) bb15) bb16) bb17) bb19) bb26) bb31) bb33) bb35) bb36) bb40) bb42) bb44)) A5 k5 l5 (Eq.trans (S44 5 rfl) (Eq.trans (S42 5 rfl) (Eq.trans (S40 5 rfl) h5))) q5 (On.adv C5 (below_step (below_step (below_step (below_step (below_step (below_step (below_step (below_step (below_step (below_step (below_step (below_step (below_step (below_step bb12 bb13) bb14) bb15) bb16) bb17) bb19) bb26) bb31) bb33) bb35) bb36) bb40) bb42) bb44)) A6 k6 l6 (Eq.trans (S44 6 rfl) (Eq.trans (S42 6 rfl) (Eq.trans (S40 6 rfl) h6))) q6 (On.adv C6 (below_step (below_step (below_step (below_step (below_step (below_step (below_step (below_step (below_step (below_step (below_step (below_step (below_step (below_step bb12 bb13) bb14) bb15) bb16) bb17) bb19) bb26) bb31) bb33) bb35) bb36) bb40) bb42) bb44)) b7 (Eq.trans (S44 7 rfl) (Eq.trans (S42 7 rfl) (Eq.trans (S40 7 rfl) h7))) a10 (Eq.trans (S44 10 rfl) (Eq.trans (S42 10 rfl) (Eq.trans (S40 10 rfl) h10))) b11 (Eq.trans (S44 11 rfl) (Eq.trans (S42 11 rfl) (Eq.trans (S40 11 rfl) h11))) a14 (Eq.trans (S44 14 rfl) (Eq.trans (S42 14 rfl) (Eq.trans (S40 14 rfl) h14))) Au12_0 ku12_0 r12_1 (Eq.trans (S44 18 rfl) (Eq.trans (S42 18 rfl) (Eq.trans (S40 18 rfl) rfl))) qu12_0 (On.adv Cu12_0 (below_step (below_step (below_step (below_step (below_step (below_step (below_step (below_step (below_step (below_step (below_step (below_step (below_step bb13 bb14) bb15) bb16) bb17) bb19) bb26) bb31) bb33) bb35) bb36) bb40) bb42) bb44)) r12_2 (Eq.trans (S44 19 rfl) (Eq.trans (S42 19 rfl) (Eq.trans (S40 19 rfl) rfl))) r14_1 (Eq.trans (S44 22 rfl) (Eq.trans (S42 22 rfl) (Eq.trans (S40 22 rfl) rfl))) Au16_0 ku16_0 r16_1 (Eq.trans (S44 26 rfl) (Eq.trans (S42 26 rfl) (Eq.trans (S40 26 rfl) rfl))) qu16_0 (On.adv Cu16_0 (below_step (below_step (below_step (below_step (below_step (below_step (below_step (below_step (below_step bb17 bb19) bb26) bb31) bb33) bb35) bb36) bb40) bb42) bb44)) r16_2 (Eq.trans (S44 27 rfl) (Eq.trans (S42 27 rfl) (Eq.trans (S40 27 rfl) rfl))) (below_step B0 (below_step (below_step (below_step (below_step (below_step (below_step (below_step (below_step (below_step (below_step (below_step (below_step (below_step (below_step bb12 bb13) bb14) bb15) bb16) bb17) bb19) bb26) bb31) bb33) bb35) bb36) bb40) bb42) bb44)) h
def laws_FnSumsMade.p1 (k : Nat) (l0 : List Int) (l1 : List Int) : Option Bool := (laws_big.f l0 l1).bind fun r2_0 => if r2_0 = true then (some true) else ((spec_DrawSumsOf.f k l0).bind fun r4_0 => (impl_SumsOf.f k r4_0).bind fun t5 => (spec_SumsOf.f k r4_0).bind fun t6 => (impl_CountSums.f k r4_0).bind fun t7 => (spec_CountSums.f k r4_0).bind fun t8 => (impl_RunOf.f k r4_0).bind fun t9 => (spec_RunOf.f k r4_0).bind fun t10 => laws_FnSumsMade.p11 k l1 r4_0 t5.1 t5.2 t6.1 t6.2 t7.1 t7.2 t8.1 t8.2 t9.1 t9.2 t10.1 t10.2)
theorem laws_FnSumsMade.w1 (k : Nat) (r : Bool) (ws : World) (f0 : Nat → Value) (w0 : World) (A0 : Option Addr) (k0 : Nat) (l0 : List Int) (h0 : f0 0 = .slice A0 l0.length k0) (q0 : l0.length ≤ k0) (C0 : On w0 fun x => Kd.C (Kd.int .u8) x A0 l0.length l0) (A1 : Option Addr) (k1 : Nat) (l1 : List Int) (h1 : f0 1 = .slice A1 l1.length k1) (q1 : l1.length ≤ k1) (C1 : On w0 fun x => Kd.C (Kd.int .u8) x A1 l1.length l1) (B0 : Below ws.heap.size ws w0) (h : laws_FnSumsMade.p1 k l0 l1 = some r) : Code.wp Try.prog laws_FnSumsMade.B (laws_FnSumsMade.Q0 ws r) (fr 533 f0) w0 := by
 unfold laws_FnSumsMade.p1 at h
 refine wp_seq ?_
 refine wp_region_lit ?_
 refine a0 (.bool false) rfl rfl rfl rfl rfl ?_
 refine nilt ?_
 refine wp_seq ?_
 refine wp_seq ?_
 refine wp_region_lit ?_
 refine m0 (.slice A0 l0.length k0) rfl rfl rfl rfl h0 ?_
 refine m0 (.slice A1 l1.length k1) rfl rfl rfl rfl h1 ?_
 obtain ⟨r2_0, e2, h⟩ := bind_ h
 refine cl_ Try.func5 (by kernel_rfl) rfl rfl rfl rfl (go0 rfl) (argc (v := .slice A0 l0.length k0) rfl (argc (v := .slice A1 l1.length k1) rfl argn)) ?_
 refine (laws_big.calls A0 k0 l0 A1 k1 l1 _ _ (C0 _ (Below.refl _ _)) q0 (C1 _ (Below.refl _ _)) q1 e2).mono ?_
 rintro e w2 ⟨rfl, d2⟩
 have bb2 := Drawn0.below d2
 refine ⟨_, rfl, ?_⟩
 refine nilt ?_
 rcases ifs h with ⟨c3, h⟩ | ⟨c3, h⟩
 · refine cT ?_ (Eq.trans rfl (vb c3)) rfl
   refine wp_seq ?_
   refine wp_region_lit ?_
   refine a0 (.bool true) rfl rfl rfl rfl rfl ?_
   refine nilt ?_
   refine wp_ret ?_
   refine then_r ?_
   exact leave rfl rfl rfl ⟨rb (Option.some.inj h), (below_step B0 bb2)⟩
 refine cF ?_ (Eq.trans rfl (vb c3)) rfl
 refine wp_skip ?_
 refine then_n ?_
 refine wp_seq ?_
 refine wp_region_lit ?_
 refine m0 (.slice A0 l0.length k0) rfl rfl rfl rfl h0 ?_
 obtain ⟨r4_0, e4, h⟩ := bind_ h
 refine cl_ Try.func24 (by kernel_rfl) rfl rfl rfl rfl (go0 rfl) (argc (v := .slice A0 l0.length k0) rfl argn) ?_
 refine (spec_DrawSumsOf.calls k A0 k0 l0 _ _ (C0 _ bb2) q0 e4).mono ?_
 rintro e w4 ⟨u4_0, rfl, ou4_0, bb4⟩
 obtain ⟨Au4_0, ku4_0, xu4_0, qu4_0, Cu4_0⟩ := V3 ou4_0; subst xu4_0
 refine ⟨_, rfl, ?_⟩
 refine a0 (.slice Au4_0 r4_0.length ku4_0) rfl rfl rfl rfl rfl ?_
 refine nilt ?_
 refine wp_seq ?_
 refine wp_region_lit ?_
 refine m0 (.slice Au4_0 r4_0.length ku4_0) rfl rfl rfl rfl rfl ?_
 obtain ⟨⟨r5_1, r5_2⟩, e5, h⟩ := bind_ h
 refine cl_ Try.func25 (by kernel_rfl) rfl rfl rfl rfl (go0 rfl) (argc (v := .slice Au4_0 r4_0.length ku4_0) rfl argn) ?_
 refine (impl_SumsOf.calls k Au4_0 ku4_0 r4_0 _ _ _ (Cu4_0 _ (Below.refl _ _)) qu4_0 e5).mono ?_
 rintro e w5 ⟨u5_0, rfl, ou5_0, bb5⟩
 obtain ⟨Au5_0, ku5_0, xu5_0, qu5_0, Cu5_0⟩ := R3 ou5_0; subst xu5_0
 refine ⟨_, rfl, ?_⟩
 refine m0 (.tuple #[.slice Au5_0 r5_1.length ku5_0, .bool r5_2]) rfl rfl rfl rfl rfl ?_
 refine x0 (.slice Au5_0 r5_1.length ku5_0) rfl rfl rfl rfl rfl rfl ?_
 refine x0 (.bool r5_2) rfl rfl rfl rfl rfl rfl ?_
 refine a0 (.slice Au5_0 r5_1.length ku5_0) rfl rfl rfl rfl rfl ?_
 refine a0 (.bool r5_2) rfl rfl rfl rfl rfl ?_
 refine nilt ?_
 refine wp_seq ?_
 refine wp_region_lit ?_
 refine m0 (.slice Au4_0 r4_0.length ku4_0) rfl rfl rfl rfl rfl ?_
 obtain ⟨⟨r6_1, r6_2⟩, e6, h⟩ := bind_ h
 refine cl_ Try.func26 (by kernel_rfl) rfl rfl rfl rfl (go0 rfl) (argc (v := .slice Au4_0 r4_0.length ku4_0) rfl argn) ?_
 refine (spec_SumsOf.calls k Au4_0 ku4_0 r4_0 _ _ _ (Cu4_0 _ bb5) qu4_0 e6).mono ?_
 rintro e w6 ⟨u6_0, rfl, ou6_0, bb6⟩
 obtain ⟨Au6_0, ku6_0, xu6_0, qu6_0, Cu6_0⟩ := R3 ou6_0; subst xu6_0
 refine ⟨_, rfl, ?_⟩
 refine m0 (.tuple #[.slice Au6_0 r6_1.length ku6_0, .bool r6_2]) rfl rfl rfl rfl rfl ?_
 refine x0 (.slice Au6_0 r6_1.length ku6_0) rfl rfl rfl rfl rfl rfl ?_
 refine x0 (.bool r6_2) rfl rfl rfl rfl rfl rfl ?_
 refine a0 (.slice Au6_0 r6_1.length ku6_0) rfl rfl rfl rfl rfl ?_
 refine a0 (.bool r6_2) rfl rfl rfl rfl rfl ?_
 refine nilt ?_
 refine wp_seq ?_
 refine wp_region_lit ?_
 refine m0 (.slice Au4_0 r4_0.length ku4_0) rfl rfl rfl rfl rfl ?_
 obtain ⟨⟨r7_1, r7_2⟩, e7, h⟩ := bind_ h
 refine cl_ Try.func27 (by kernel_rfl) rfl rfl rfl rfl (go0 rfl) (argc (v := .slice Au4_0 r4_0.length ku4_0) rfl argn) ?_
 refine (impl_CountSums.calls k Au4_0 ku4_0 r4_0 _ _ _ (Cu4_0 _ (below_step bb5 bb6)) qu4_0 e7).mono ?_
 rintro e w7 ⟨rfl, bb7⟩
 refine ⟨_, rfl, ?_⟩
 refine m0 (.tuple #[.int .i64 r7_1, .bool r7_2]) rfl rfl rfl rfl rfl ?_
 refine x0 (.int .i64 r7_1) rfl rfl rfl rfl rfl rfl ?_
 refine x0 (.bool r7_2) rfl rfl rfl rfl rfl rfl ?_
 refine a0 (.int .i64 r7_1) rfl rfl rfl rfl rfl ?_
 refine a0 (.bool r7_2) rfl rfl rfl rfl rfl ?_
 refine nilt ?_
 refine wp_seq ?_
 refine wp_region_lit ?_
 refine m0 (.slice Au4_0 r4_0.length ku4_0) rfl rfl rfl rfl rfl ?_
 obtain ⟨⟨r8_1, r8_2⟩, e8, h⟩ := bind_ h
 refine cl_ Try.func28 (by kernel_rfl) rfl rfl rfl rfl (go0 rfl) (argc (v := .slice Au4_0 r4_0.length ku4_0) rfl argn) ?_
 refine (spec_CountSums.calls k Au4_0 ku4_0 r4_0 _ _ _ (Cu4_0 _ (below_step (below_step bb5 bb6) bb7)) qu4_0 e8).mono ?_
 rintro e w8 ⟨rfl, bb8⟩
 refine ⟨_, rfl, ?_⟩
 refine m0 (.tuple #[.int .i64 r8_1, .bool r8_2]) rfl rfl rfl rfl rfl ?_
 refine x0 (.int .i64 r8_1) rfl rfl rfl rfl rfl rfl ?_
 refine x0 (.bool r8_2) rfl rfl rfl rfl rfl rfl ?_
 refine a0 (.int .i64 r8_1) rfl rfl rfl rfl rfl ?_
 refine a0 (.bool r8_2) rfl rfl rfl rfl rfl ?_
 refine nilt ?_
 refine wp_seq ?_
 refine wp_region_lit ?_
 refine m0 (.slice Au4_0 r4_0.length ku4_0) rfl rfl rfl rfl rfl ?_
 obtain ⟨⟨r9_1, r9_2⟩, e9, h⟩ := bind_ h
 refine cl_ Try.func29 (by kernel_rfl) rfl rfl rfl rfl (go0 rfl) (argc (v := .slice Au4_0 r4_0.length ku4_0) rfl argn) ?_
 refine (impl_RunOf.calls k Au4_0 ku4_0 r4_0 _ _ _ (Cu4_0 _ (below_step (below_step (below_step bb5 bb6) bb7) bb8)) qu4_0 e9).mono ?_
 rintro e w9 ⟨rfl, bb9⟩
 refine ⟨_, rfl, ?_⟩
 refine m0 (.tuple #[.int .i64 r9_1, .bool r9_2]) rfl rfl rfl rfl rfl ?_
 refine x0 (.int .i64 r9_1) rfl rfl rfl rfl rfl rfl ?_
 refine x0 (.bool r9_2) rfl rfl rfl rfl rfl rfl ?_
 refine a0 (.int .i64 r9_1) rfl rfl rfl rfl rfl ?_
 refine a0 (.bool r9_2) rfl rfl rfl rfl rfl ?_
 refine nilt ?_
 refine wp_seq ?_
 refine wp_region_lit ?_
 refine m0 (.slice Au4_0 r4_0.length ku4_0) rfl rfl rfl rfl rfl ?_
 obtain ⟨⟨r10_1, r10_2⟩, e10, h⟩ := bind_ h
 refine cl_ Try.func30 (by kernel_rfl) rfl rfl rfl rfl (go0 rfl) (argc (v := .slice Au4_0 r4_0.length ku4_0) rfl argn) ?_
 refine (spec_RunOf.calls k Au4_0 ku4_0 r4_0 _ _ _ (Cu4_0 _ (below_step (below_step (below_step (below_step bb5 bb6) bb7) bb8) bb9)) qu4_0 e10).mono ?_
 rintro e w10 ⟨rfl, d10⟩
 have bb10 := Drawn0.below d10
 refine ⟨_, rfl, ?_⟩
 refine m0 (.tuple #[.int .i64 r10_1, .bool r10_2]) rfl rfl rfl rfl rfl ?_
 refine x0 (.int .i64 r10_1) rfl rfl rfl rfl rfl rfl ?_
 refine x0 (.bool r10_2) rfl rfl rfl rfl rfl rfl ?_
 refine a0 (.int .i64 r10_1) rfl rfl rfl rfl rfl ?_
 refine a0 (.bool r10_2) rfl rfl rfl rfl rfl ?_
 refine nilt ?_
 exact laws_FnSumsMade.w11 k r ws _ _ A1 k1 l1 h1 q1 (On.adv C1 (below_step (below_step (below_step (below_step (below_step (below_step (below_step bb2 bb4) bb5) bb6) bb7) bb8) bb9) bb10)) Au4_0 ku4_0 r4_0 rfl qu4_0 (On.adv Cu4_0 (below_step (below_step (below_step (below_step (below_step bb5 bb6) bb7) bb8) bb9) bb10)) Au5_0 ku5_0 r5_1 rfl qu5_0 (On.adv Cu5_0 (below_step (below_step (below_step (below_step bb6 bb7) bb8) bb9) bb10)) r5_2 rfl Au6_0 ku6_0 r6_1 rfl qu6_0 (On.adv Cu6_0 (below_step (below_step (below_step bb7 bb8) bb9) bb10)) r6_2 rfl r7_1 rfl r7_2 rfl r8_1 rfl r8_2 rfl r9_1 rfl r9_2 rfl r10_1 rfl r10_2 rfl (below_step B0 (below_step (below_step (below_step (below_step (below_step (below_step (below_step bb2 bb4) bb5) bb6) bb7) bb8) bb9) bb10)) h
def laws_FnSumsMade.f (k : Nat) (l0 : List Int) (l1 : List Int) : Option Bool := laws_FnSumsMade.p1 k l0 l1
theorem laws_FnSumsMade.calls (k : Nat) (A0 : Option Addr) (c0 : Nat) (l0 : List Int) (A1 : Option Addr) (c1 : Nat) (l1 : List Int) (r : Bool) (w : World) (hr0 : Kd.C (Kd.int .u8) w A0 l0.length l0) (hc0 : l0.length ≤ c0) (hr1 : Kd.C (Kd.int .u8) w A1 l1.length l1) (hc1 : l1.length ≤ c1) (h : laws_FnSumsMade.f k l0 l1 = some r) :
 Calls Try.prog 4 #[.slice A0 l0.length c0, .slice A1 l1.length c1] w fun e w' => e = .returned (.bool r) ∧ Below w.heap.size w w' := by
 refine enter (n := 533) (args := [.slice A0 l0.length c0, .slice A1 l1.length c1]) Try.func4 rfl rfl (by simp) (fun f0 hf => ?_)
 have B0 := Below.refl w.heap.size w
 have h0 := hf 0 _ rfl
 have C0 := on_C hr0
 have h1 := hf 1 _ rfl
 have C1 := on_C hr1
 exact laws_FnSumsMade.w1 k r w _ _ A0 c0 l0 h0 hc0 C0 A1 c1 l1 h1 hc1 C1 B0 h
/-- What is left to prove of the law: numbers and lists alone. -/
def laws_FnSumsMade.Pure : Prop := ∀ (l0 : List Int) (l1 : List Int), l0.length ≤ maxLen → l0.length * 1 ≤ 140737488351232 → (∀ x ∈ l0, (Lit.int .u8 x).wf = true) → l1.length ≤ maxLen → l1.length * 1 ≤ 140737488351232 → (∀ x ∈ l1, (Lit.int .u8 x).wf = true) → ∃ k, laws_FnSumsMade.f k l0 l1 = some true
theorem laws_FnSumsMade.walk (P : laws_FnSumsMade.Pure) (a0 : Option Addr) (len0 cap0 : Nat) (z0 : List Int) (a1 : Option Addr) (len1 cap1 : Nat) (z1 : List Int) (w : World) (w0 : (a0 = none ∧ len0 = 0 ∧ cap0 = 0 ∧ z0 = []) ∨ ∃ x, a0 = some x ∧ len0 ≤ cap0 ∧ cap0 ≤ maxLen ∧ z0.length = cap0 ∧ (∀ i, i < z0.length → w.cell? (x.add i) = some (.int .u8 (z0.getD i 0))) ∧ ∀ n ∈ z0, (Lit.int .u8 n).wf = true) (y0 : len0 * 1 ≤ 140737488351232) (w1 : (a1 = none ∧ len1 = 0 ∧ cap1 = 0 ∧ z1 = []) ∨ ∃ x, a1 = some x ∧ len1 ≤ cap1 ∧ cap1 ≤ maxLen ∧ z1.length = cap1 ∧ (∀ i, i < z1.length → w.cell? (x.add i) = some (.int .u8 (z1.getD i 0))) ∧ ∀ n ∈ z1, (Lit.int .u8 n).wf = true) (y1 : len1 * 1 ≤ 140737488351232) :
 Calls Try.prog 4 #[.slice a0 len0 cap0, .slice a1 len1 cap1] w fun e w' => e = .returned (.bool true) ∧ Below w.heap.size w w' := by
 obtain ⟨l0, rfl, hr0, hm0, hw0, hc0⟩ := ReadsInt.ofRowC w0
 obtain ⟨l1, rfl, hr1, hm1, hw1, hc1⟩ := ReadsInt.ofRowC w1
 obtain ⟨k, h⟩ := P l0 l1 hm0 y0 hw0 hm1 y1 hw1
 exact laws_FnSumsMade.calls k _ _ l0 _ _ l1 true w (Kd.C_of_reads (d := (0 : Int)) (h1 := fun _ => rfl) hr0) hc0 (Kd.C_of_reads (d := (0 : Int)) (h1 := fun _ => rfl) hr1) hc1 h
end

end Go.Proofs.Ytkbllhlmcfjcdaa.PFnSumsMade
