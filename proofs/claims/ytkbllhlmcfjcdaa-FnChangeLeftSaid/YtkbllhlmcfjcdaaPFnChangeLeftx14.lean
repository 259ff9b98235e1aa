-- MADE FOR THIS CLAIM by wip/xp/xprint.py (with the kit's print; some functions' contracts proved by hand)
import Derived.Test.YtkbllhlmcfjcdaaVFnChangeLeft
import Derived.Test.YtkbllhlmcfjcdaaPFnChangeLeftx0
import Derived.Test.YtkbllhlmcfjcdaaPFnChangeLeftx1
import Derived.Test.YtkbllhlmcfjcdaaPFnChangeLeftx2
import Derived.Test.YtkbllhlmcfjcdaaPFnChangeLeftx3
import Derived.Test.YtkbllhlmcfjcdaaPFnChangeLeftx6
import Derived.Test.YtkbllhlmcfjcdaaPFnChangeLeftx7
import Derived.Test.YtkbllhlmcfjcdaaPFnChangeLeftx10
import Derived.Test.YtkbllhlmcfjcdaaPFnChangeLeftx11
import Derived.Test.YtkbllhlmcfjcdaaPFnChangeLeftx12
import Derived.Test.YtkbllhlmcfjcdaaPFnChangeLeftx13
set_option maxHeartbeats 8000000
set_option maxRecDepth 100000
namespace Go.Proofs.Ytkbllhlmcfjcdaa.PFnChangeLeft
open Go.RowKit Go.Proofs.YtkbllhlmcfjcdaaW.PrintWords Go.Proofs.YtkbllhlmcfjcdaaW.PrintLast Go.Proofs.YtkbllhlmcfjcdaaW.PrintMore Go.Proofs.Ytkbllhlmcfjcdaa.Xmv
attribute [local go_sem] max2_int min2_int max_two min_two max_three min_three max_four min_four   -- for this text's walks alone
set_option linter.unusedVariables false
set_option linter.unusedSimpArgs false

/-! ### laws_FnChangeLeft: function 3 -/
section
open Go.Proofs.Ytkbllhlmcfjcdaa.Lw
set_option maxRecDepth 100000
@[reducible] noncomputable def laws_FnChangeLeft.B : Code := Try.f3.body.getD .skip
@[reducible] def laws_FnChangeLeft.Q0 (ws : World) (r : Bool) : Exit → Act → World → Prop := bodyPost Try.prog Try.f3 (fun e w' => e = .returned (.bool r) ∧ Below ws.heap.size ws w')
theorem laws_FnChangeLeft.u3 : Try.prog.underlying 3 = some (.int .i64) := by kernel_rfl
theorem laws_FnChangeLeft.u4 : Try.prog.underlying 4 = some (.bool) := by kernel_rfl
theorem laws_FnChangeLeft.u24 : Try.prog.underlying 24 = some (.slice (Try.prog.elem 24)) := by kernel_rfl
theorem laws_FnChangeLeft.z24 : (Try.prog.info? (Try.prog.elem 24)).map (·.size) = some 1 := by kernel_rfl
theorem laws_FnChangeLeft.y24 : (Try.prog.info? (Try.prog.elem 24)).map (fun i => (i.zero, i.size, i.bytes)) = some (some (.int .i64 0), 1, 8) := by kernel_rfl
theorem laws_FnChangeLeft.x24 : (Try.prog.info? (Try.prog.elem 24)).map (fun i => (i.zero, i.size)) = some (some (.int .i64 0), 1) := by kernel_rfl
@[reducible] def laws_FnChangeLeft.Q1 (ws : World) (r : Bool) : Exit → Act → World → Prop := Exit.then (Code.wp Try.prog (srn 9 laws_FnChangeLeft.B) (laws_FnChangeLeft.Q0 ws r)) (laws_FnChangeLeft.Q0 ws r)
@[reducible] def laws_FnChangeLeft.Q2 (ws : World) (r : Bool) : Exit → Act → World → Prop := Exit.then (Code.wp Try.prog (srn 2 (ct (srn 1 (sl (srn 8 laws_FnChangeLeft.B))))) (laws_FnChangeLeft.Q1 ws r)) (laws_FnChangeLeft.Q1 ws r)
@[reducible] def laws_FnChangeLeft.Q3 (ws : World) (r : Bool) : Exit → Act → World → Prop := Exit.inBlock 0 (laws_FnChangeLeft.Q2 ws r)
@[reducible] def laws_FnChangeLeft.Q4 (ws : World) (r : Bool) : Exit → Act → World → Prop := Exit.then (fun a' w' => AtHead Try.prog (lb (bl (srn 1 (sl (srn 1 (ct (srn 1 (sl (srn 8 laws_FnChangeLeft.B))))))))) (laws_FnChangeLeft.Q3 ws r) a' w') (laws_FnChangeLeft.Q3 ws r)
def laws_FnChangeLeft.p29 (k : Nat) (L19 : List Int → List Int → List Int → Int → List Int → Bool → Bool → Int → List Int → Int → Int → Option Bool) (l1 : List Int) (l5 : List Int) (l6 : List Int) (a7 : Int) (l8 : List Int) (b12 : Bool) (b13 : Bool) (a16 : Int) (l118 : List Int) (a119 : Int) (a120 : Int) : Option Bool := L19 l1 l5 l6 a7 l8 b12 b13 a16 l118 a119 (wrap64 (a120 + 1))
theorem laws_FnChangeLeft.w29 (k : Nat) (r : Bool) (ws : World) (L19 : List Int → List Int → List Int → Int → List Int → Bool → Bool → Int → List Int → Int → Int → Option Bool) (ih19 : ∀ (f0 : Nat → Value) (w0 : World) (A1 : Option Addr) (k1 : Nat) (l1 : List Int) (h1 : f0 1 = .slice A1 l1.length k1) (q1 : l1.length ≤ k1) (C1 : On w0 fun x => Kd.C (Kd.int .u8) x A1 l1.length l1) (A5 : Option Addr) (k5 : Nat) (l5 : List Int) (h5 : f0 5 = .slice A5 l5.length k5) (q5 : l5.length ≤ k5) (C5 : On w0 fun x => Kd.C (Kd.int .i64) x A5 l5.length l5) (A6 : Option Addr) (k6 : Nat) (l6 : List Int) (h6 : f0 6 = .slice A6 l6.length k6) (q6 : l6.length ≤ k6) (C6 : On w0 fun x => Kd.C (Kd.int .i64) x A6 l6.length l6) (a7 : Int) (h7 : f0 7 = .int .i64 a7) (A8 : Option Addr) (k8 : Nat) (l8 : List Int) (h8 : f0 8 = .slice A8 l8.length k8) (q8 : l8.length ≤ k8) (C8 : On w0 fun x => Kd.C (Kd.int .i64) x A8 l8.length l8) (b12 : Bool) (h12 : f0 12 = .bool b12) (b13 : Bool) (h13 : f0 13 = .bool b13) (a16 : Int) (h16 : f0 16 = .int .i64 a16) (A118 : Option Addr) (k118 : Nat) (l118 : List Int) (h118 : f0 118 = .slice A118 l118.length k118) (q118 : l118.length ≤ k118) (C118 : On w0 fun x => Kd.C (Kd.int .i64) x A118 l118.length l118) (a119 : Int) (h119 : f0 119 = .int .i64 a119) (a120 : Int) (h120 : f0 120 = .int .i64 a120) (B0 : Below ws.heap.size ws w0) (h : L19 l1 l5 l6 a7 l8 b12 b13 a16 l118 a119 a120 = some r), AtHead Try.prog (lb (bl (srn 1 (sl (srn 1 (ct (srn 1 (sl (srn 8 laws_FnChangeLeft.B))))))))) (laws_FnChangeLeft.Q3 ws r) (fr 405 f0) w0) (f0 : Nat → Value) (w0 : World) (A1 : Option Addr) (k1 : Nat) (l1 : List Int) (h1 : f0 1 = .slice A1 l1.length k1) (q1 : l1.length ≤ k1) (C1 : On w0 fun x => Kd.C (Kd.int .u8) x A1 l1.length l1) (A5 : Option Addr) (k5 : Nat) (l5 : List Int) (h5 : f0 5 = .slice A5 l5.length k5) (q5 : l5.length ≤ k5) (C5 : On w0 fun x => Kd.C (Kd.int .i64) x A5 l5.length l5) (A6 : Option Addr) (k6 : Nat) (l6 : List Int) (h6 : f0 6 = .slice A6 l6.length k6) (q6 : l6.length ≤ k6) (C6 : On w0 fun x => Kd.C (Kd.int .i64) x A6 l6.length l6) (a7 : Int) (h7 : f0 7 = .int .i64 a7) (A8 : Option Addr) (k8 : Nat) (l8 : List Int) (h8 : f0 8 = .slice A8 l8.length k8) (q8 : l8.length ≤ k8) (C8 : On w0 fun x => Kd.C (Kd.int .i64) x A8 l8.length l8) (b12 : Bool) (h12 : f0 12 = .bool b12) (b13 : Bool) (h13 : f0 13 = .bool b13) (a16 : Int) (h16 : f0 16 = .int .i64 a16) (A118 : Option Addr) (k118 : Nat) (l118 : List Int) (h118 : f0 118 = .slice A118 l118.length k118) (q118 : l118.length ≤ k118) (C118 : On w0 fun x => Kd.C (Kd.int .i64) x A118 l118.length l118) (a119 : Int) (h119 : f0 119 = .int .i64 a119) (a120 : Int) (h120 : f0 120 = .int .i64 a120) (B0 : Below ws.heap.size ws w0) (h : laws_FnChangeLeft.p29 k L19 l1 l5 l6 a7 l8 b12 b13 a16 l118 a119 a120 = some r) : Code.wp Try.prog (srn 3 (lb (bl (srn 1 (sl (srn 1 (ct (srn 1 (sl (srn 8 laws_FnChangeLeft.B)))))))))) (laws_FnChangeLeft.Q4 ws r) (fr 405 f0) w0 := by
 unfold laws_FnChangeLeft.p29 at h
 refine wp_region_lit ?_
 refine bi_ (v := .int .i64 (wrap64 (a120 + 1))) rfl rfl rfl rfl (go0 rfl) h120 rfl (i_add rfl) ?_
 refine m0 (.int .i64 (wrap64 (a120 + 1))) rfl rfl rfl rfl rfl ?_
 refine nilt ?_
 exact ih19 _ _ A1 k1 l1 h1 q1 C1 A5 k5 l5 h5 q5 C5 A6 k6 l6 h6 q6 C6 a7 h7 A8 k8 l8 h8 q8 C8 b12 h12 b13 h13 a16 h16 A118 k118 l118 h118 q118 C118 a119 h119 (wrap64 (a120 + 1)) rfl B0 h
@[reducible] def laws_FnChangeLeft.Q5 (ws : World) (r : Bool) : Exit → Act → World → Prop := Exit.then (Code.wp Try.prog (srn 10 laws_FnChangeLeft.B) (laws_FnChangeLeft.Q0 ws r)) (laws_FnChangeLeft.Q0 ws r)
@[reducible] def laws_FnChangeLeft.Q6 (ws : World) (r : Bool) : Exit → Act → World → Prop := Exit.then (Code.wp Try.prog (srn 2 (ct (srn 1 (sl (srn 9 laws_FnChangeLeft.B))))) (laws_FnChangeLeft.Q5 ws r)) (laws_FnChangeLeft.Q5 ws r)
@[reducible] def laws_FnChangeLeft.Q7 (ws : World) (r : Bool) : Exit → Act → World → Prop := Exit.inBlock 2 (laws_FnChangeLeft.Q6 ws r)
@[reducible] def laws_FnChangeLeft.Q8 (ws : World) (r : Bool) : Exit → Act → World → Prop := Exit.then (fun a' w' => AtHead Try.prog (lb (bl (srn 1 (sl (srn 1 (ct (srn 1 (sl (srn 9 laws_FnChangeLeft.B))))))))) (laws_FnChangeLeft.Q7 ws r) a' w') (laws_FnChangeLeft.Q7 ws r)
def laws_FnChangeLeft.p45 (k : Nat) (L39 : List Int → List Int → List Int → Int → Bool → Int → List Int → Int → Int → Option Bool) (l1 : List Int) (l5 : List Int) (l6 : List Int) (a7 : Int) (b12 : Bool) (a21 : Int) (l171 : List Int) (a172 : Int) (a173 : Int) : Option Bool := L39 l1 l5 l6 a7 b12 a21 l171 a172 (wrap64 (a173 + 1))
theorem laws_FnChangeLeft.w45 (k : Nat) (r : Bool) (ws : World) (L39 : List Int → List Int → List Int → Int → Bool → Int → List Int → Int → Int → Option Bool) (ih39 : ∀ (f0 : Nat → Value) (w0 : World) (A1 : Option Addr) (k1 : Nat) (l1 : List Int) (h1 : f0 1 = .slice A1 l1.length k1) (q1 : l1.length ≤ k1) (C1 : On w0 fun x => Kd.C (Kd.int .u8) x A1 l1.length l1) (A5 : Option Addr) (k5 : Nat) (l5 : List Int) (h5 : f0 5 = .slice A5 l5.length k5) (q5 : l5.length ≤ k5) (C5 : On w0 fun x => Kd.C (Kd.int .i64) x A5 l5.length l5) (A6 : Option Addr) (k6 : Nat) (l6 : List Int) (h6 : f0 6 = .slice A6 l6.length k6) (q6 : l6.length ≤ k6) (C6 : On w0 fun x => Kd.C (Kd.int .i64) x A6 l6.length l6) (a7 : Int) (h7 : f0 7 = .int .i64 a7) (b12 : Bool) (h12 : f0 12 = .bool b12) (a21 : Int) (h21 : f0 21 = .int .i64 a21) (A171 : Option Addr) (k171 : Nat) (l171 : List Int) (h171 : f0 171 = .slice A171 l171.length k171) (q171 : l171.length ≤ k171) (C171 : On w0 fun x => Kd.C (Kd.int .i64) x A171 l171.length l171) (a172 : Int) (h172 : f0 172 = .int .i64 a172) (a173 : Int) (h173 : f0 173 = .int .i64 a173) (B0 : Below ws.heap.size ws w0) (h : L39 l1 l5 l6 a7 b12 a21 l171 a172 a173 = some r), AtHead Try.prog (lb (bl (srn 1 (sl (srn 1 (ct (srn 1 (sl (srn 9 laws_FnChangeLeft.B))))))))) (laws_FnChangeLeft.Q7 ws r) (fr 405 f0) w0) (f0 : Nat → Value) (w0 : World) (A1 : Option Addr) (k1 : Nat) (l1 : List Int) (h1 : f0 1 = .slice A1 l1.length k1) (q1 : l1.length ≤ k1) (C1 : On w0 fun x => Kd.C (Kd.int .u8) x A1 l1.length l1) (A5 : Option Addr) (k5 : Nat) (l5 : List Int) (h5 : f0 5 = .slice A5 l5.length k5) (q5 : l5.length ≤ k5) (C5 : On w0 fun x => Kd.C (Kd.int .i64) x A5 l5.length l5) (A6 : Option Addr) (k6 : Nat) (l6 : List Int) (h6 : f0 6 = .slice A6 l6.length k6) (q6 : l6.length ≤ k6) (C6 : On w0 fun x => Kd.C (Kd.int .i64) x A6 l6.length l6) (a7 : Int) (h7 : f0 7 = .int .i64 a7) (b12 : Bool) (h12 : f0 12 = .bool b12) (a21 : Int) (h21 : f0 21 = .int .i64 a21) (A171 : Option Addr) (k171 : Nat) (l171 : List Int) (h171 : f0 171 = .slice A171 l171.length k171) (q171 : l171.length ≤ k171) (C171 : On w0 fun x => Kd.C (Kd.int .i64) x A171 l171.length l171) (a172 : Int) (h172 : f0 172 = .int .i64 a172) (a173 : Int) (h173 : f0 173 = .int .i64 a173) (B0 : Below ws.heap.size ws w0) (h : laws_FnChangeLeft.p45 k L39 l1 l5 l6 a7 b12 a21 l171 a172 a173 = some r) : Code.wp Try.prog (srn 3 (lb (bl (srn 1 (sl (srn 1 (ct (srn 1 (sl (srn 9 laws_FnChangeLeft.B)))))))))) (laws_FnChangeLeft.Q8 ws r) (fr 405 f0) w0 := by
 unfold laws_FnChangeLeft.p45 at h
 refine wp_region_lit ?_
 refine bi_ (v := .int .i64 (wrap64 (a173 + 1))) rfl rfl rfl rfl (go0 rfl) h173 rfl (i_add rfl) ?_
 refine m0 (.int .i64 (wrap64 (a173 + 1))) rfl rfl rfl rfl rfl ?_
 refine nilt ?_
 exact ih39 _ _ A1 k1 l1 h1 q1 C1 A5 k5 l5 h5 q5 C5 A6 k6 l6 h6 q6 C6 a7 h7 b12 h12 a21 h21 A171 k171 l171 h171 q171 C171 a172 h172 (wrap64 (a173 + 1)) rfl B0 h
@[reducible] def laws_FnChangeLeft.Q9 (ws : World) (r : Bool) : Exit → Act → World → Prop := Exit.then (Code.wp Try.prog (srn 19 laws_FnChangeLeft.B) (laws_FnChangeLeft.Q0 ws r)) (laws_FnChangeLeft.Q0 ws r)
@[reducible] def laws_FnChangeLeft.Q10 (ws : World) (r : Bool) : Exit → Act → World → Prop := Exit.then (Code.wp Try.prog (srn 3 (ct (srn 1 (sl (srn 18 laws_FnChangeLeft.B))))) (laws_FnChangeLeft.Q9 ws r)) (laws_FnChangeLeft.Q9 ws r)
@[reducible] def laws_FnChangeLeft.Q11 (ws : World) (r : Bool) : Exit → Act → World → Prop := Exit.inBlock 4 (laws_FnChangeLeft.Q10 ws r)
@[reducible] def laws_FnChangeLeft.Q12 (ws : World) (r : Bool) : Exit → Act → World → Prop := Exit.then (fun a' w' => AtHead Try.prog (lb (bl (srn 1 (sl (srn 2 (ct (srn 1 (sl (srn 18 laws_FnChangeLeft.B))))))))) (laws_FnChangeLeft.Q11 ws r) a' w') (laws_FnChangeLeft.Q11 ws r)
def laws_FnChangeLeft.p95 (k : Nat) (L87 : List Int → Int → Int → List Int → Bool → Int → Option Bool) (l26 : List Int) (a27 : Int) (a31 : Int) (l35 : List Int) (b36 : Bool) (a41 : Int) : Option Bool := L87 l26 a27 a31 l35 b36 (wrap64 (a41 + 1))
theorem laws_FnChangeLeft.w95 (k : Nat) (r : Bool) (ws : World) (L87 : List Int → Int → Int → List Int → Bool → Int → Option Bool) (ih87 : ∀ (f0 : Nat → Value) (w0 : World) (A26 : Option Addr) (k26 : Nat) (l26 : List Int) (h26 : f0 26 = .slice A26 l26.length k26) (q26 : l26.length ≤ k26) (C26 : On w0 fun x => Kd.C (Kd.int .i64) x A26 l26.length l26) (a27 : Int) (h27 : f0 27 = .int .i64 a27) (a31 : Int) (h31 : f0 31 = .int .i64 a31) (A35 : Option Addr) (k35 : Nat) (l35 : List Int) (h35 : f0 35 = .slice A35 l35.length k35) (q35 : l35.length ≤ k35) (C35 : On w0 fun x => Kd.C (Kd.int .i64) x A35 l35.length l35) (b36 : Bool) (h36 : f0 36 = .bool b36) (a41 : Int) (h41 : f0 41 = .int .i64 a41) (B0 : Below ws.heap.size ws w0) (h : L87 l26 a27 a31 l35 b36 a41 = some r), AtHead Try.prog (lb (bl (srn 1 (sl (srn 2 (ct (srn 1 (sl (srn 18 laws_FnChangeLeft.B))))))))) (laws_FnChangeLeft.Q11 ws r) (fr 405 f0) w0) (f0 : Nat → Value) (w0 : World) (A26 : Option Addr) (k26 : Nat) (l26 : List Int) (h26 : f0 26 = .slice A26 l26.length k26) (q26 : l26.length ≤ k26) (C26 : On w0 fun x => Kd.C (Kd.int .i64) x A26 l26.length l26) (a27 : Int) (h27 : f0 27 = .int .i64 a27) (a31 : Int) (h31 : f0 31 = .int .i64 a31) (A35 : Option Addr) (k35 : Nat) (l35 : List Int) (h35 : f0 35 = .slice A35 l35.length k35) (q35 : l35.length ≤ k35) (C35 : On w0 fun x => Kd.C (Kd.int .i64) x A35 l35.length l35) (b36 : Bool) (h36 : f0 36 = .bool b36) (a41 : Int) (h41 : f0 41 = .int .i64 a41) (B0 : Below ws.heap.size ws w0) (h : laws_FnChangeLeft.p95 k L87 l26 a27 a31 l35 b36 a41 = some r) : Code.wp Try.prog (srn 2 (lb (bl (srn 1 (sl (srn 2 (ct (srn 1 (sl (srn 18 laws_FnChangeLeft.B)))))))))) (laws_FnChangeLeft.Q12 ws r) (fr 405 f0) w0 := by
 unfold laws_FnChangeLeft.p95 at h
 refine wp_region_lit ?_
 refine m0 (.int .i64 a41) rfl rfl rfl rfl h41 ?_
 refine bi_ (v := .int .i64 (wrap64 (a41 + 1))) rfl rfl rfl rfl (go0 rfl) rfl rfl (i_add rfl) ?_
 refine a0 (.int .i64 (wrap64 (a41 + 1))) rfl rfl rfl rfl rfl ?_
 refine nilt ?_
 exact ih87 _ _ A26 k26 l26 h26 q26 C26 a27 h27 a31 h31 A35 k35 l35 h35 q35 C35 b36 h36 (wrap64 (a41 + 1)) rfl B0 h
@[reducible] def laws_FnChangeLeft.Q13 (ws : World) (r : Bool) : Exit → Act → World → Prop := Exit.then (Code.wp Try.prog (srn 2 (ct (srn 4 (ct (srn 1 (sl (srn 18 laws_FnChangeLeft.B))))))) (laws_FnChangeLeft.Q9 ws r)) (laws_FnChangeLeft.Q9 ws r)
@[reducible] def laws_FnChangeLeft.Q14 (ws : World) (r : Bool) : Exit → Act → World → Prop := Exit.inBlock 6 (laws_FnChangeLeft.Q13 ws r)
@[reducible] def laws_FnChangeLeft.Q15 (ws : World) (r : Bool) : Exit → Act → World → Prop := Exit.then (fun a' w' => AtHead Try.prog (lb (bl (srn 1 (sl (srn 1 (ct (srn 4 (ct (srn 1 (sl (srn 18 laws_FnChangeLeft.B))))))))))) (laws_FnChangeLeft.Q14 ws r) a' w') (laws_FnChangeLeft.Q14 ws r)
def laws_FnChangeLeft.p102 (k : Nat) (L98 : List Int → Int → Int → List Int → Bool → Int → Int → Option Bool) (l26 : List Int) (a27 : Int) (a31 : Int) (l35 : List Int) (b36 : Bool) (a44 : Int) (a45 : Int) : Option Bool := L98 l26 a27 a31 l35 b36 a44 (wrap64 (a45 + 1))
theorem laws_FnChangeLeft.w102 (k : Nat) (r : Bool) (ws : World) (L98 : List Int → Int → Int → List Int → Bool → Int → Int → Option Bool) (ih98 : ∀ (f0 : Nat → Value) (w0 : World) (A26 : Option Addr) (k26 : Nat) (l26 : List Int) (h26 : f0 26 = .slice A26 l26.length k26) (q26 : l26.length ≤ k26) (C26 : On w0 fun x => Kd.C (Kd.int .i64) x A26 l26.length l26) (a27 : Int) (h27 : f0 27 = .int .i64 a27) (a31 : Int) (h31 : f0 31 = .int .i64 a31) (A35 : Option Addr) (k35 : Nat) (l35 : List Int) (h35 : f0 35 = .slice A35 l35.length k35) (q35 : l35.length ≤ k35) (C35 : On w0 fun x => Kd.C (Kd.int .i64) x A35 l35.length l35) (b36 : Bool) (h36 : f0 36 = .bool b36) (a44 : Int) (h44 : f0 44 = .int .i64 a44) (a45 : Int) (h45 : f0 45 = .int .i64 a45) (B0 : Below ws.heap.size ws w0) (h : L98 l26 a27 a31 l35 b36 a44 a45 = some r), AtHead Try.prog (lb (bl (srn 1 (sl (srn 1 (ct (srn 4 (ct (srn 1 (sl (srn 18 laws_FnChangeLeft.B))))))))))) (laws_FnChangeLeft.Q14 ws r) (fr 405 f0) w0) (f0 : Nat → Value) (w0 : World) (A26 : Option Addr) (k26 : Nat) (l26 : List Int) (h26 : f0 26 = .slice A26 l26.length k26) (q26 : l26.length ≤ k26) (C26 : On w0 fun x => Kd.C (Kd.int .i64) x A26 l26.length l26) (a27 : Int) (h27 : f0 27 = .int .i64 a27) (a31 : Int) (h31 : f0 31 = .int .i64 a31) (A35 : Option Addr) (k35 : Nat) (l35 : List Int) (h35 : f0 35 = .slice A35 l35.length k35) (q35 : l35.length ≤ k35) (C35 : On w0 fun x => Kd.C (Kd.int .i64) x A35 l35.length l35) (b36 : Bool) (h36 : f0 36 = .bool b36) (a44 : Int) (h44 : f0 44 = .int .i64 a44) (a45 : Int) (h45 : f0 45 = .int .i64 a45) (B0 : Below ws.heap.size ws w0) (h : laws_FnChangeLeft.p102 k L98 l26 a27 a31 l35 b36 a44 a45 = some r) : Code.wp Try.prog (srn 2 (lb (bl (srn 1 (sl (srn 1 (ct (srn 4 (ct (srn 1 (sl (srn 18 laws_FnChangeLeft.B)))))))))))) (laws_FnChangeLeft.Q15 ws r) (fr 405 f0) w0 := by
 unfold laws_FnChangeLeft.p102 at h
 refine wp_region_lit ?_
 refine m0 (.int .i64 a45) rfl rfl rfl rfl h45 ?_
 refine bi_ (v := .int .i64 (wrap64 (a45 + 1))) rfl rfl rfl rfl (go0 rfl) rfl rfl (i_add rfl) ?_
 refine a0 (.int .i64 (wrap64 (a45 + 1))) rfl rfl rfl rfl rfl ?_
 refine nilt ?_
 exact ih98 _ _ A26 k26 l26 h26 q26 C26 a27 h27 a31 h31 A35 k35 l35 h35 q35 C35 b36 h36 a44 h44 (wrap64 (a45 + 1)) rfl B0 h
@[reducible] def laws_FnChangeLeft.Q16 (ws : World) (r : Bool) : Exit → Act → World → Prop := Exit.then (Code.wp Try.prog (srn 20 laws_FnChangeLeft.B) (laws_FnChangeLeft.Q0 ws r)) (laws_FnChangeLeft.Q0 ws r)
@[reducible] def laws_FnChangeLeft.Q17 (ws : World) (r : Bool) : Exit → Act → World → Prop := Exit.then (Code.wp Try.prog (srn 1 (ct (srn 1 (sl (srn 19 laws_FnChangeLeft.B))))) (laws_FnChangeLeft.Q16 ws r)) (laws_FnChangeLeft.Q16 ws r)
@[reducible] def laws_FnChangeLeft.Q18 (ws : World) (r : Bool) : Exit → Act → World → Prop := Exit.inBlock 8 (laws_FnChangeLeft.Q17 ws r)
@[reducible] def laws_FnChangeLeft.Q19 (ws : World) (r : Bool) : Exit → Act → World → Prop := Exit.then (fun a' w' => AtHead Try.prog (lb (bl (srn 1 (sl (ct (srn 1 (sl (srn 19 laws_FnChangeLeft.B)))))))) (laws_FnChangeLeft.Q18 ws r) a' w') (laws_FnChangeLeft.Q18 ws r)
def laws_FnChangeLeft.p122 (k : Nat) (L107 : List Int → List Int → List Int → Int → Int → Option Bool) (l26 : List Int) (l35 : List Int) (l373 : List Int) (a374 : Int) (a375 : Int) : Option Bool := L107 l26 l35 l373 a374 (wrap64 (a375 + 1))
theorem laws_FnChangeLeft.w122 (k : Nat) (r : Bool) (ws : World) (L107 : List Int → List Int → List Int → Int → Int → Option Bool) (ih107 : ∀ (f0 : Nat → Value) (w0 : World) (A26 : Option Addr) (k26 : Nat) (l26 : List Int) (h26 : f0 26 = .slice A26 l26.length k26) (q26 : l26.length ≤ k26) (C26 : On w0 fun x => Kd.C (Kd.int .i64) x A26 l26.length l26) (A35 : Option Addr) (k35 : Nat) (l35 : List Int) (h35 : f0 35 = .slice A35 l35.length k35) (q35 : l35.length ≤ k35) (C35 : On w0 fun x => Kd.C (Kd.int .i64) x A35 l35.length l35) (A373 : Option Addr) (k373 : Nat) (l373 : List Int) (h373 : f0 373 = .slice A373 l373.length k373) (q373 : l373.length ≤ k373) (C373 : On w0 fun x => Kd.C (Kd.int .i64) x A373 l373.length l373) (a374 : Int) (h374 : f0 374 = .int .i64 a374) (a375 : Int) (h375 : f0 375 = .int .i64 a375) (B0 : Below ws.heap.size ws w0) (h : L107 l26 l35 l373 a374 a375 = some r), AtHead Try.prog (lb (bl (srn 1 (sl (ct (srn 1 (sl (srn 19 laws_FnChangeLeft.B)))))))) (laws_FnChangeLeft.Q18 ws r) (fr 405 f0) w0) (f0 : Nat → Value) (w0 : World) (A26 : Option Addr) (k26 : Nat) (l26 : List Int) (h26 : f0 26 = .slice A26 l26.length k26) (q26 : l26.length ≤ k26) (C26 : On w0 fun x => Kd.C (Kd.int .i64) x A26 l26.length l26) (A35 : Option Addr) (k35 : Nat) (l35 : List Int) (h35 : f0 35 = .slice A35 l35.length k35) (q35 : l35.length ≤ k35) (C35 : On w0 fun x => Kd.C (Kd.int .i64) x A35 l35.length l35) (A373 : Option Addr) (k373 : Nat) (l373 : List Int) (h373 : f0 373 = .slice A373 l373.length k373) (q373 : l373.length ≤ k373) (C373 : On w0 fun x => Kd.C (Kd.int .i64) x A373 l373.length l373) (a374 : Int) (h374 : f0 374 = .int .i64 a374) (a375 : Int) (h375 : f0 375 = .int .i64 a375) (B0 : Below ws.heap.size ws w0) (h : laws_FnChangeLeft.p122 k L107 l26 l35 l373 a374 a375 = some r) : Code.wp Try.prog (srn 3 (lb (bl (srn 1 (sl (ct (srn 1 (sl (srn 19 laws_FnChangeLeft.B))))))))) (laws_FnChangeLeft.Q19 ws r) (fr 405 f0) w0 := by
 unfold laws_FnChangeLeft.p122 at h
 refine wp_region_lit ?_
 refine bi_ (v := .int .i64 (wrap64 (a375 + 1))) rfl rfl rfl rfl (go0 rfl) h375 rfl (i_add rfl) ?_
 refine m0 (.int .i64 (wrap64 (a375 + 1))) rfl rfl rfl rfl rfl ?_
 refine nilt ?_
 exact ih107 _ _ A26 k26 l26 h26 q26 C26 A35 k35 l35 h35 q35 C35 A373 k373 l373 h373 q373 C373 a374 h374 (wrap64 (a375 + 1)) rfl B0 h
def laws_FnChangeLeft.p123 (k : Nat) (l35 : List Int) : Option Bool := (laws_tRises.f k l35).bind fun r124_0 => some r124_0
theorem laws_FnChangeLeft.w123 (k : Nat) (r : Bool) (ws : World) (f0 : Nat → Value) (w0 : World) (A35 : Option Addr) (k35 : Nat) (l35 : List Int) (h35 : f0 35 = .slice A35 l35.length k35) (q35 : l35.length ≤ k35) (C35 : On w0 fun x => Kd.C (Kd.int .i64) x A35 l35.length l35) (B0 : Below ws.heap.size ws w0) (h : laws_FnChangeLeft.p123 k l35 = some r) : Code.wp Try.prog (srn 1 (ct (srn 1 (sl (srn 19 laws_FnChangeLeft.B))))) (laws_FnChangeLeft.Q16 ws r) (fr 405 f0) w0 := by
 unfold laws_FnChangeLeft.p123 at h
 refine wp_seq ?_
 refine wp_region_lit ?_
 refine m0 (.slice A35 l35.length k35) rfl rfl rfl rfl h35 ?_
 obtain ⟨r124_0, e124, h⟩ := bind_ h
 refine cl_ Try.func23 (by kernel_rfl) rfl rfl rfl rfl (go0 rfl) (argc (v := .slice A35 l35.length k35) rfl argn) ?_
 refine (laws_tRises.calls k A35 k35 l35 _ _ (C35 _ (Below.refl _ _)) q35 e124).mono ?_
 rintro e w124 ⟨rfl, d124⟩
 have bb124 := Drawn0.below d124
 refine ⟨_, rfl, ?_⟩
 refine a0 (.bool r124_0) rfl rfl rfl rfl rfl ?_
 refine nilt ?_
 refine wp_ret ?_
 refine then_r ?_
 exact leave rfl rfl rfl ⟨rb (Option.some.inj h), (below_step B0 bb124)⟩
def laws_FnChangeLeft.l107 (k : Nat) : Nat → List Int → List Int → List Int → Int → Int → Option Bool
 | 0, _, _, _, _, _ => none
 | n + 1, l26, l35, l373, a374, a375 => if (decide (a375 < a374)) = true then (if (decide (0 ≤ a375) && decide (a375 < (l373.length : Int))) = true then (if (decide (0 ≤ a375) && decide (a375 ≤ (l26.length : Int))) = true then (if (decide (([] : List Int).length + (l26.take (Int.toNat a375)).length < 17592186044416)) = true then (if (decide (0 ≤ (wrap64 (a375 + 1))) && decide ((wrap64 (a375 + 1)) ≤ (l26.length : Int))) = true then (if (decide ((([] : List Int) ++ (l26.take (Int.toNat a375))).length + (l26.drop (Int.toNat (wrap64 (a375 + 1)))).length < 17592186044416)) = true then ((impl_FewestCoins.f k ((([] : List Int) ++ (l26.take (Int.toNat a375))) ++ (l26.drop (Int.toNat (wrap64 (a375 + 1))))) (rd l373 a375)).bind fun t119 => (laws_tHas.f k l35 (rd l373 a375)).bind fun r120_0 => if (r120_0 != t119.2) = true then none else laws_FnChangeLeft.p122 k (laws_FnChangeLeft.l107 k n) l26 l35 l373 a374 a375) else none) else none) else none) else none) else none) else (laws_FnChangeLeft.p123 k l35)
theorem laws_FnChangeLeft.w107 (k : Nat) (r : Bool) (ws : World) : ∀ (n : Nat), ∀ (f0 : Nat → Value) (w0 : World) (A26 : Option Addr) (k26 : Nat) (l26 : List Int) (h26 : f0 26 = .slice A26 l26.length k26) (q26 : l26.length ≤ k26) (C26 : On w0 fun x => Kd.C (Kd.int .i64) x A26 l26.length l26) (A35 : Option Addr) (k35 : Nat) (l35 : List Int) (h35 : f0 35 = .slice A35 l35.length k35) (q35 : l35.length ≤ k35) (C35 : On w0 fun x => Kd.C (Kd.int .i64) x A35 l35.length l35) (A373 : Option Addr) (k373 : Nat) (l373 : List Int) (h373 : f0 373 = .slice A373 l373.length k373) (q373 : l373.length ≤ k373) (C373 : On w0 fun x => Kd.C (Kd.int .i64) x A373 l373.length l373) (a374 : Int) (h374 : f0 374 = .int .i64 a374) (a375 : Int) (h375 : f0 375 = .int .i64 a375) (B0 : Below ws.heap.size ws w0) (h : laws_FnChangeLeft.l107 k n l26 l35 l373 a374 a375 = some r), AtHead Try.prog (lb (bl (srn 1 (sl (ct (srn 1 (sl (srn 19 laws_FnChangeLeft.B)))))))) (laws_FnChangeLeft.Q18 ws r) (fr 405 f0) w0 := by
 intro n
 induction n with
 | zero => intro f0 w0 A26 k26 l26 h26 q26 C26 A35 k35 l35 h35 q35 C35 A373 k373 l373 h373 q373 C373 a374 h374 a375 h375 B0 h; rw [laws_FnChangeLeft.l107] at h; cases h
 | succ n ih107 =>
  intro f0 w0 A26 k26 l26 h26 q26 C26 A35 k35 l35 h35 q35 C35 A373 k373 l373 h373 q373 C373 a374 h374 a375 h375 B0 h
  rw [laws_FnChangeLeft.l107] at h
  refine head_round ?_
  refine wp_seq ?_
  refine wp_region_lit ?_
  refine bi_ (v := .bool (decide (a375 < a374))) rfl rfl rfl rfl (go0 rfl) h375 h374 (i_lss rfl) ?_
  refine nilt ?_
  refine wp_seq ?_
  rcases ifs h with ⟨c108, h⟩ | ⟨c108, h⟩
  · refine cT ?_ (Eq.trans rfl (vb c108)) rfl
    refine wp_skip ?_
    refine then_n ?_
    refine wp_seq ?_
    refine wp_block ?_
    refine wp_seq ?_
    refine wp_region_lit ?_
    refine m0 (.int .i64 a375) rfl rfl rfl rfl h375 ?_
    obtain ⟨c109, h⟩ := ify h
    replace c109 := bnd c109
    obtain ⟨ad110, ead110, xad110⟩ := at_int_on C373 a375 c109.1 (by have := c109.2; omega)
    refine ix_ (q := a375) laws_FnChangeLeft.u24 laws_FnChangeLeft.z24 rfl rfl rfl rfl (go0 rfl) h373 h375 ead110 c109 ?_
    refine ld_ (v := .int .i64 (rd l373 a375)) rfl rfl rfl (go0 rfl) rfl (load_i laws_FnChangeLeft.u3 (xad110 _ (Below.refl _ _))) ?_
    refine a0 (.int .i64 a375) rfl rfl rfl rfl rfl ?_
    refine a0 (.int .i64 (rd l373 a375)) rfl rfl rfl rfl rfl ?_
    refine nilt ?_
    refine wp_seq ?_
    refine wp_region_lit ?_
    refine a0 (.slice none 0 0) rfl rfl rfl rfl rfl ?_
    refine nilt ?_
    refine wp_seq ?_
    refine wp_region_lit ?_
    refine m0 (.slice none 0 0) rfl rfl rfl rfl rfl ?_
    refine m0 (.slice A26 l26.length k26) rfl rfl rfl rfl h26 ?_
    refine m0 (.int .i64 a375) rfl rfl rfl rfl rfl ?_
    obtain ⟨c111, h⟩ := ify h
    replace c111 := bnd1 c111
    have Ct112 := on_take (Int.toNat a375) C26 (bnd2 c111)
    refine vr_ (go0 rfl) rfl (run_hi (l := l26) (q := a375) laws_FnChangeLeft.u24 laws_FnChangeLeft.z24 rfl rfl rfl rfl rfl q26 c111) ?_
    obtain ⟨c113, h⟩ := ify h
    replace c113 := of_decide_eq_true c113
    refine ap_ (v := .slice none 0 0) (xs := ([] : List Int)) (ys := (l26.take (Int.toNat a375))) laws_FnChangeLeft.u24 laws_FnChangeLeft.y24 rfl rfl rfl rfl rfl rfl rfl (own_nil _ _ _) Ct112 (Below.refl _ _) c113 ?_
    intro Ag114 kg114 w114 qg114 Og114 Cg114 bb114
    refine a0 (.slice Ag114 (([] : List Int) ++ (l26.take (Int.toNat a375))).length kg114) rfl rfl rfl rfl rfl ?_
    refine nilt ?_
    refine wp_seq ?_
    refine wp_region_lit ?_
    refine m0 (.slice Ag114 (([] : List Int) ++ (l26.take (Int.toNat a375))).length kg114) rfl rfl rfl rfl rfl ?_
    refine m0 (.slice A26 l26.length k26) rfl rfl rfl rfl h26 ?_
    refine m0 (.int .i64 a375) rfl rfl rfl rfl rfl ?_
    refine bi_ (v := .int .i64 (wrap64 (a375 + 1))) rfl rfl rfl rfl (go0 rfl) rfl rfl (i_add rfl) ?_
    obtain ⟨c115, h⟩ := ify h
    replace c115 := bnd1 c115
    have Ct116 := on_drop (Int.toNat (wrap64 (a375 + 1))) k26 (On.adv C26 bb114) (bnd2 c115) q26
    refine vr_ (go0 rfl) rfl (run_lo (l := l26) (q := (wrap64 (a375 + 1))) laws_FnChangeLeft.u24 laws_FnChangeLeft.z24 rfl rfl rfl rfl rfl c115) ?_
    obtain ⟨c117, h⟩ := ify h
    replace c117 := of_decide_eq_true c117
    refine ap_ (v := .slice Ag114 (([] : List Int) ++ (l26.take (Int.toNat a375))).length kg114) (xs := (([] : List Int) ++ (l26.take (Int.toNat a375)))) (ys := (l26.drop (Int.toNat (wrap64 (a375 + 1))))) laws_FnChangeLeft.u24 laws_FnChangeLeft.y24 rfl rfl rfl rfl rfl rfl rfl Og114 Ct116 bb114 c117 ?_
    intro Ag118 kg118 w118 qg118 Og118 Cg118 bb118
    refine a0 (.slice Ag118 ((([] : List Int) ++ (l26.take (Int.toNat a375))) ++ (l26.drop (Int.toNat (wrap64 (a375 + 1))))).length kg118) rfl rfl rfl rfl rfl ?_
    refine nilt ?_
    refine wp_seq ?_
    refine wp_region_lit ?_
    refine m0 (.slice Ag118 ((([] : List Int) ++ (l26.take (Int.toNat a375))) ++ (l26.drop (Int.toNat (wrap64 (a375 + 1))))).length kg118) rfl rfl rfl rfl rfl ?_
    refine m0 (.int .i64 (rd l373 a375)) rfl rfl rfl rfl rfl ?_
    obtain ⟨⟨r119_1, r119_2⟩, e119, h⟩ := bind_ h
    refine cl_ Try.func12 (by kernel_rfl) rfl rfl rfl rfl (go0 rfl) (argc (v := .slice Ag118 ((([] : List Int) ++ (l26.take (Int.toNat a375))) ++ (l26.drop (Int.toNat (wrap64 (a375 + 1))))).length kg118) rfl (argc (v := .int .i64 (rd l373 a375)) rfl argn)) ?_
    refine (impl_FewestCoins.calls k Ag118 kg118 ((([] : List Int) ++ (l26.take (Int.toNat a375))) ++ (l26.drop (Int.toNat (wrap64 (a375 + 1))))) (rd l373 a375) _ _ _ (Cg118 _ (Below.refl _ _)) (app_le qg118) e119).mono ?_
    rintro e w119 ⟨rfl, bb119⟩
    refine ⟨_, rfl, ?_⟩
    refine m0 (.tuple #[.int .i64 r119_1, .bool r119_2]) rfl rfl rfl rfl rfl ?_
    refine x0 (.int .i64 r119_1) rfl rfl rfl rfl rfl rfl ?_
    refine x0 (.bool r119_2) rfl rfl rfl rfl rfl rfl ?_
    refine a0 (.int .i64 r119_1) rfl rfl rfl rfl rfl ?_
    refine a0 (.bool r119_2) rfl rfl rfl rfl rfl ?_
    refine nilt ?_
    refine wp_seq ?_
    refine wp_region_lit ?_
    refine m0 (.slice A35 l35.length k35) rfl rfl rfl rfl h35 ?_
    refine m0 (.int .i64 (rd l373 a375)) rfl rfl rfl rfl rfl ?_
    obtain ⟨r120_0, e120, h⟩ := bind_ h
    refine cl_ Try.func22 (by kernel_rfl) rfl rfl rfl rfl (go0 rfl) (argc (v := .slice A35 l35.length k35) rfl (argc (v := .int .i64 (rd l373 a375)) rfl argn)) ?_
    refine (laws_tHas.calls k A35 k35 l35 (rd l373 a375) _ _ (C35 _ (below_step bb118 bb119)) q35 e120).mono ?_
    rintro e w120 ⟨rfl, d120⟩
    have bb120 := Drawn0.below d120
    refine ⟨_, rfl, ?_⟩
    refine m0 (.bool r119_2) rfl rfl rfl rfl rfl ?_
    obtain ⟨c121, h⟩ := ifn h
    refine bb_ (v := .bool (false)) rfl rfl rfl rfl (go0 rfl) rfl rfl (b_neq laws_FnChangeLeft.u4 c121) ?_
    refine nilt ?_
    refine cF ?_ rfl rfl
    refine wp_skip ?_
    refine blk_n ?_
    refine then_n ?_
    exact laws_FnChangeLeft.w122 k r ws (laws_FnChangeLeft.l107 k n) ih107 _ _ A26 k26 l26 h26 q26 (On.adv C26 (below_step (below_step bb118 bb119) bb120)) A35 k35 l35 h35 q35 (On.adv C35 (below_step (below_step bb118 bb119) bb120)) A373 k373 l373 h373 q373 (On.adv C373 (below_step (below_step bb118 bb119) bb120)) a374 h374 a375 h375 (below_step B0 (below_step (below_step bb118 bb119) bb120)) h
  refine cF ?_ (Eq.trans rfl (vb c108)) rfl
  refine wp_exit ?_
  refine then_x ?_
  refine then_x ?_
  refine blk_x ?_
  refine then_n ?_
  exact laws_FnChangeLeft.w123 k r ws _ _ A35 k35 l35 h35 q35 C35 B0 h
def laws_FnChangeLeft.p105 (k : Nat) (l26 : List Int) (l35 : List Int) (b36 : Bool) : Option Bool := if b36 = true then (laws_FnChangeLeft.l107 k k l26 l35 l26 (l26.length : Int) 0) else (some true)
theorem laws_FnChangeLeft.w105 (k : Nat) (r : Bool) (ws : World) (f0 : Nat → Value) (w0 : World) (A26 : Option Addr) (k26 : Nat) (l26 : List Int) (h26 : f0 26 = .slice A26 l26.length k26) (q26 : l26.length ≤ k26) (C26 : On w0 fun x => Kd.C (Kd.int .i64) x A26 l26.length l26) (A35 : Option Addr) (k35 : Nat) (l35 : List Int) (h35 : f0 35 = .slice A35 l35.length k35) (q35 : l35.length ≤ k35) (C35 : On w0 fun x => Kd.C (Kd.int .i64) x A35 l35.length l35) (b36 : Bool) (h36 : f0 36 = .bool b36) (B0 : Below ws.heap.size ws w0) (h : laws_FnChangeLeft.p105 k l26 l35 b36 = some r) : Code.wp Try.prog (srn 19 laws_FnChangeLeft.B) (laws_FnChangeLeft.Q0 ws r) (fr 405 f0) w0 := by
 unfold laws_FnChangeLeft.p105 at h
 refine wp_seq ?_
 refine wp_seq ?_
 refine wp_region_lit ?_
 refine m0 (.bool b36) rfl rfl rfl rfl h36 ?_
 refine nilt ?_
 rcases ifs h with ⟨c106, h⟩ | ⟨c106, h⟩
 · refine cT ?_ (Eq.trans rfl (vb c106)) rfl
   refine wp_seq ?_
   refine wp_seq ?_
   refine wp_region_lit ?_
   refine m0 (.slice A26 l26.length k26) rfl rfl rfl rfl h26 ?_
   refine ln_ laws_FnChangeLeft.u24 rfl rfl rfl (go0 rfl) rfl ?_
   refine m0 (.int .i64 0) rfl rfl rfl rfl rfl ?_
   refine nilt ?_
   refine wp_block ?_
   exact head_loop (laws_FnChangeLeft.w107 k r ws k _ _ A26 k26 l26 h26 q26 C26 A35 k35 l35 h35 q35 C35 A26 k26 l26 rfl q26 C26 (l26.length : Int) rfl 0 rfl B0 h)
 refine cF ?_ (Eq.trans rfl (vb c106)) rfl
 refine wp_skip ?_
 refine then_n ?_
 refine wp_seq ?_
 refine wp_region_lit ?_
 refine a0 (.bool true) rfl rfl rfl rfl rfl ?_
 refine nilt ?_
 refine wp_ret ?_
 exact leave rfl rfl rfl ⟨rb (Option.some.inj h), B0⟩
def laws_FnChangeLeft.p103 (k : Nat) (l26 : List Int) (a31 : Int) (l35 : List Int) (b36 : Bool) (a44 : Int) : Option Bool := if (a44 != a31) = true then none else laws_FnChangeLeft.p105 k l26 l35 b36
theorem laws_FnChangeLeft.w103 (k : Nat) (r : Bool) (ws : World) (f0 : Nat → Value) (w0 : World) (A26 : Option Addr) (k26 : Nat) (l26 : List Int) (h26 : f0 26 = .slice A26 l26.length k26) (q26 : l26.length ≤ k26) (C26 : On w0 fun x => Kd.C (Kd.int .i64) x A26 l26.length l26) (a31 : Int) (h31 : f0 31 = .int .i64 a31) (A35 : Option Addr) (k35 : Nat) (l35 : List Int) (h35 : f0 35 = .slice A35 l35.length k35) (q35 : l35.length ≤ k35) (C35 : On w0 fun x => Kd.C (Kd.int .i64) x A35 l35.length l35) (b36 : Bool) (h36 : f0 36 = .bool b36) (a44 : Int) (h44 : f0 44 = .int .i64 a44) (B0 : Below ws.heap.size ws w0) (h : laws_FnChangeLeft.p103 k l26 a31 l35 b36 a44 = some r) : Code.wp Try.prog (srn 2 (ct (srn 4 (ct (srn 1 (sl (srn 18 laws_FnChangeLeft.B))))))) (laws_FnChangeLeft.Q9 ws r) (fr 405 f0) w0 := by
 unfold laws_FnChangeLeft.p103 at h
 refine wp_seq ?_
 refine wp_region_lit ?_
 refine m0 (.int .i64 a44) rfl rfl rfl rfl h44 ?_
 refine m0 (.int .i64 a31) rfl rfl rfl rfl h31 ?_
 obtain ⟨c104, h⟩ := ifn h
 refine bi_ (v := .bool (false)) rfl rfl rfl rfl (go0 rfl) rfl rfl (i_neq c104) ?_
 refine nilt ?_
 refine cF ?_ rfl rfl
 refine wp_skip ?_
 refine then_n ?_
 exact laws_FnChangeLeft.w105 k r ws _ _ A26 k26 l26 h26 q26 C26 A35 k35 l35 h35 q35 C35 b36 h36 B0 h
def laws_FnChangeLeft.l98 (k : Nat) : Nat → List Int → Int → Int → List Int → Bool → Int → Int → Option Bool
 | 0, _, _, _, _, _, _, _ => none
 | n + 1, l26, a27, a31, l35, b36, a44, a45 => if (decide (a45 ≤ a27)) = true then ((impl_FewestCoins.f k l26 a45).bind fun t100 => if (!t100.2) = true then (laws_FnChangeLeft.p102 k (laws_FnChangeLeft.l98 k n) l26 a27 a31 l35 b36 (wrap64 (a44 + 1)) a45) else (laws_FnChangeLeft.p102 k (laws_FnChangeLeft.l98 k n) l26 a27 a31 l35 b36 a44 a45)) else (laws_FnChangeLeft.p103 k l26 a31 l35 b36 a44)
theorem laws_FnChangeLeft.w98 (k : Nat) (r : Bool) (ws : World) : ∀ (n : Nat), ∀ (f0 : Nat → Value) (w0 : World) (A26 : Option Addr) (k26 : Nat) (l26 : List Int) (h26 : f0 26 = .slice A26 l26.length k26) (q26 : l26.length ≤ k26) (C26 : On w0 fun x => Kd.C (Kd.int .i64) x A26 l26.length l26) (a27 : Int) (h27 : f0 27 = .int .i64 a27) (a31 : Int) (h31 : f0 31 = .int .i64 a31) (A35 : Option Addr) (k35 : Nat) (l35 : List Int) (h35 : f0 35 = .slice A35 l35.length k35) (q35 : l35.length ≤ k35) (C35 : On w0 fun x => Kd.C (Kd.int .i64) x A35 l35.length l35) (b36 : Bool) (h36 : f0 36 = .bool b36) (a44 : Int) (h44 : f0 44 = .int .i64 a44) (a45 : Int) (h45 : f0 45 = .int .i64 a45) (B0 : Below ws.heap.size ws w0) (h : laws_FnChangeLeft.l98 k n l26 a27 a31 l35 b36 a44 a45 = some r), AtHead Try.prog (lb (bl (srn 1 (sl (srn 1 (ct (srn 4 (ct (srn 1 (sl (srn 18 laws_FnChangeLeft.B))))))))))) (laws_FnChangeLeft.Q14 ws r) (fr 405 f0) w0 := by
 intro n
 induction n with
 | zero => intro f0 w0 A26 k26 l26 h26 q26 C26 a27 h27 a31 h31 A35 k35 l35 h35 q35 C35 b36 h36 a44 h44 a45 h45 B0 h; rw [laws_FnChangeLeft.l98] at h; cases h
 | succ n ih98 =>
  intro f0 w0 A26 k26 l26 h26 q26 C26 a27 h27 a31 h31 A35 k35 l35 h35 q35 C35 b36 h36 a44 h44 a45 h45 B0 h
  rw [laws_FnChangeLeft.l98] at h
  refine head_round ?_
  refine wp_seq ?_
  refine wp_seq ?_
  refine wp_region_lit ?_
  refine m0 (.int .i64 a45) rfl rfl rfl rfl h45 ?_
  refine m0 (.int .i64 a27) rfl rfl rfl rfl h27 ?_
  refine bi_ (v := .bool (decide (a45 ≤ a27))) rfl rfl rfl rfl (go0 rfl) rfl rfl (i_leq rfl) ?_
  refine nilt ?_
  rcases ifs h with ⟨c99, h⟩ | ⟨c99, h⟩
  · refine cT ?_ (Eq.trans rfl (vb c99)) rfl
    refine wp_skip ?_
    refine then_n ?_
    refine wp_seq ?_
    refine wp_block ?_
    refine wp_seq ?_
    refine wp_region_lit ?_
    refine m0 (.slice A26 l26.length k26) rfl rfl rfl rfl h26 ?_
    refine m0 (.int .i64 a45) rfl rfl rfl rfl h45 ?_
    obtain ⟨⟨r100_1, r100_2⟩, e100, h⟩ := bind_ h
    refine cl_ Try.func12 (by kernel_rfl) rfl rfl rfl rfl (go0 rfl) (argc (v := .slice A26 l26.length k26) rfl (argc (v := .int .i64 a45) rfl argn)) ?_
    refine (impl_FewestCoins.calls k A26 k26 l26 a45 _ _ _ (C26 _ (Below.refl _ _)) q26 e100).mono ?_
    rintro e w100 ⟨rfl, bb100⟩
    refine ⟨_, rfl, ?_⟩
    refine m0 (.tuple #[.int .i64 r100_1, .bool r100_2]) rfl rfl rfl rfl rfl ?_
    refine x0 (.int .i64 r100_1) rfl rfl rfl rfl rfl rfl ?_
    refine x0 (.bool r100_2) rfl rfl rfl rfl rfl rfl ?_
    refine a0 (.int .i64 r100_1) rfl rfl rfl rfl rfl ?_
    refine a0 (.bool r100_2) rfl rfl rfl rfl rfl ?_
    refine nilt ?_
    refine wp_seq ?_
    refine wp_region_lit ?_
    refine m0 (.bool r100_2) rfl rfl rfl rfl rfl ?_
    refine nt_ (c := !r100_2) rfl rfl rfl (go0 rfl) rfl rfl ?_
    refine nilt ?_
    rcases ifs h with ⟨c101, h⟩ | ⟨c101, h⟩
    · refine cT ?_ (Eq.trans rfl (vb c101)) rfl
      refine wp_region_lit ?_
      refine m0 (.int .i64 a44) rfl rfl rfl rfl h44 ?_
      refine bi_ (v := .int .i64 (wrap64 (a44 + 1))) rfl rfl rfl rfl (go0 rfl) rfl rfl (i_add rfl) ?_
      refine a0 (.int .i64 (wrap64 (a44 + 1))) rfl rfl rfl rfl rfl ?_
      refine wpList_nil ?_
      refine blk_n ?_
      refine then_n ?_
      exact laws_FnChangeLeft.w102 k r ws (laws_FnChangeLeft.l98 k n) ih98 _ _ A26 k26 l26 h26 q26 (On.adv C26 bb100) a27 h27 a31 h31 A35 k35 l35 h35 q35 (On.adv C35 bb100) b36 h36 (wrap64 (a44 + 1)) rfl a45 h45 (below_step B0 bb100) h
    refine cF ?_ (Eq.trans rfl (vb c101)) rfl
    refine wp_skip ?_
    refine blk_n ?_
    refine then_n ?_
    exact laws_FnChangeLeft.w102 k r ws (laws_FnChangeLeft.l98 k n) ih98 _ _ A26 k26 l26 h26 q26 (On.adv C26 bb100) a27 h27 a31 h31 A35 k35 l35 h35 q35 (On.adv C35 bb100) b36 h36 a44 h44 a45 h45 (below_step B0 bb100) h
  refine cF ?_ (Eq.trans rfl (vb c99)) rfl
  refine wp_exit ?_
  refine then_x ?_
  refine then_x ?_
  refine blk_x ?_
  refine then_n ?_
  exact laws_FnChangeLeft.w103 k r ws _ _ A26 k26 l26 h26 q26 C26 a31 h31 A35 k35 l35 h35 q35 C35 b36 h36 a44 h44 B0 h
def laws_FnChangeLeft.p96 (k : Nat) (l26 : List Int) (a27 : Int) (a31 : Int) (l35 : List Int) (b36 : Bool) : Option Bool := if (decide (a27 ≤ 300)) = true then (laws_FnChangeLeft.l98 k k l26 a27 a31 l35 b36 0 0) else (laws_FnChangeLeft.p105 k l26 l35 b36)
theorem laws_FnChangeLeft.w96 (k : Nat) (r : Bool) (ws : World) (f0 : Nat → Value) (w0 : World) (A26 : Option Addr) (k26 : Nat) (l26 : List Int) (h26 : f0 26 = .slice A26 l26.length k26) (q26 : l26.length ≤ k26) (C26 : On w0 fun x => Kd.C (Kd.int .i64) x A26 l26.length l26) (a27 : Int) (h27 : f0 27 = .int .i64 a27) (a31 : Int) (h31 : f0 31 = .int .i64 a31) (A35 : Option Addr) (k35 : Nat) (l35 : List Int) (h35 : f0 35 = .slice A35 l35.length k35) (q35 : l35.length ≤ k35) (C35 : On w0 fun x => Kd.C (Kd.int .i64) x A35 l35.length l35) (b36 : Bool) (h36 : f0 36 = .bool b36) (B0 : Below ws.heap.size ws w0) (h : laws_FnChangeLeft.p96 k l26 a27 a31 l35 b36 = some r) : Code.wp Try.prog (srn 3 (ct (srn 1 (sl (srn 18 laws_FnChangeLeft.B))))) (laws_FnChangeLeft.Q9 ws r) (fr 405 f0) w0 := by
 unfold laws_FnChangeLeft.p96 at h
 refine wp_seq ?_
 refine wp_region_lit ?_
 refine m0 (.int .i64 a27) rfl rfl rfl rfl h27 ?_
 refine bi_ (v := .bool (decide (a27 ≤ 300))) rfl rfl rfl rfl (go0 rfl) rfl rfl (i_leq rfl) ?_
 refine nilt ?_
 rcases ifs h with ⟨c97, h⟩ | ⟨c97, h⟩
 · refine cT ?_ (Eq.trans rfl (vb c97)) rfl
   refine wp_seq ?_
   refine wp_region_lit ?_
   refine a0 (.int .i64 0) rfl rfl rfl rfl rfl ?_
   refine nilt ?_
   refine wp_seq ?_
   refine wp_seq ?_
   refine wp_region_lit ?_
   refine a0 (.int .i64 0) rfl rfl rfl rfl rfl ?_
   refine nilt ?_
   refine wp_block ?_
   exact head_loop (laws_FnChangeLeft.w98 k r ws k _ _ A26 k26 l26 h26 q26 C26 a27 h27 a31 h31 A35 k35 l35 h35 q35 C35 b36 h36 0 rfl 0 rfl B0 h)
 refine cF ?_ (Eq.trans rfl (vb c97)) rfl
 refine wp_skip ?_
 refine then_n ?_
 exact laws_FnChangeLeft.w105 k r ws _ _ A26 k26 l26 h26 q26 C26 A35 k35 l35 h35 q35 C35 b36 h36 B0 h
def laws_FnChangeLeft.l87 (k : Nat) : Nat → List Int → Int → Int → List Int → Bool → Int → Option Bool
 | 0, _, _, _, _, _, _ => none
 | n + 1, l26, a27, a31, l35, b36, a41 => if (decide ((0 : Int) ≤ 0) && decide (0 < (l26.length : Int))) = true then ((if (decide (a41 ≤ (wrap64 (a27 + (rd l26 0))))) = true then (some (decide (a41 ≤ 20000))) else (some false)).bind fun d90 => if d90 = true then ((impl_FewestCoins.f k l26 a41).bind fun t93 => if t93.2 = true then (laws_FnChangeLeft.p95 k (laws_FnChangeLeft.l87 k n) l26 a27 a31 l35 b36 a41) else none) else (laws_FnChangeLeft.p96 k l26 a27 a31 l35 b36)) else none
theorem laws_FnChangeLeft.w87 (k : Nat) (r : Bool) (ws : World) : ∀ (n : Nat), ∀ (f0 : Nat → Value) (w0 : World) (A26 : Option Addr) (k26 : Nat) (l26 : List Int) (h26 : f0 26 = .slice A26 l26.length k26) (q26 : l26.length ≤ k26) (C26 : On w0 fun x => Kd.C (Kd.int .i64) x A26 l26.length l26) (a27 : Int) (h27 : f0 27 = .int .i64 a27) (a31 : Int) (h31 : f0 31 = .int .i64 a31) (A35 : Option Addr) (k35 : Nat) (l35 : List Int) (h35 : f0 35 = .slice A35 l35.length k35) (q35 : l35.length ≤ k35) (C35 : On w0 fun x => Kd.C (Kd.int .i64) x A35 l35.length l35) (b36 : Bool) (h36 : f0 36 = .bool b36) (a41 : Int) (h41 : f0 41 = .int .i64 a41) (B0 : Below ws.heap.size ws w0) (h : laws_FnChangeLeft.l87 k n l26 a27 a31 l35 b36 a41 = some r), AtHead Try.prog (lb (bl (srn 1 (sl (srn 2 (ct (srn 1 (sl (srn 18 laws_FnChangeLeft.B))))))))) (laws_FnChangeLeft.Q11 ws r) (fr 405 f0) w0 := by
 intro n
 induction n with
 | zero => intro f0 w0 A26 k26 l26 h26 q26 C26 a27 h27 a31 h31 A35 k35 l35 h35 q35 C35 b36 h36 a41 h41 B0 h; rw [laws_FnChangeLeft.l87] at h; cases h
 | succ n ih87 =>
  intro f0 w0 A26 k26 l26 h26 q26 C26 a27 h27 a31 h31 A35 k35 l35 h35 q35 C35 b36 h36 a41 h41 B0 h
  rw [laws_FnChangeLeft.l87] at h
  refine head_round ?_
  refine wp_seq ?_
  refine wp_seq ?_
  refine wp_region_lit ?_
  refine m0 (.int .i64 a41) rfl rfl rfl rfl h41 ?_
  refine m0 (.int .i64 a27) rfl rfl rfl rfl h27 ?_
  refine m0 (.slice A26 l26.length k26) rfl rfl rfl rfl h26 ?_
  obtain ⟨c88, h⟩ := ify h
  replace c88 := bnd c88
  obtain ⟨ad89, ead89, xad89⟩ := at_int_on C26 0 c88.1 (by have := c88.2; omega)
  refine ix_ (q := 0) laws_FnChangeLeft.u24 laws_FnChangeLeft.z24 rfl rfl rfl rfl (go0 rfl) rfl rfl ead89 c88 ?_
  refine ld_ (v := .int .i64 (rd l26 0)) rfl rfl rfl (go0 rfl) rfl (load_i laws_FnChangeLeft.u3 (xad89 _ (Below.refl _ _))) ?_
  refine bi_ (v := .int .i64 (wrap64 (a27 + (rd l26 0)))) rfl rfl rfl rfl (go0 rfl) rfl rfl (i_add rfl) ?_
  refine bi_ (v := .bool (decide (a41 ≤ (wrap64 (a27 + (rd l26 0)))))) rfl rfl rfl rfl (go0 rfl) rfl rfl (i_leq rfl) ?_
  refine m0 (.bool (decide (a41 ≤ (wrap64 (a27 + (rd l26 0)))))) rfl rfl rfl rfl rfl ?_
  obtain ⟨d90, e90, h⟩ := bind_ h
  refine cut_ 3 (fun f g w' => Same 53 f g ∧ g 341 = .bool d90 ∧ Below w0.heap.size w0 w') ?_ ?_
  · clear h; have h := e90; clear e90
    rcases ifs h with ⟨c91, h⟩ | ⟨c91, h⟩
    · refine mv_ (v := .int .i64 a41) rfl rfl rfl (go1 (j := 7) (t := 338) rfl (by kernel_rfl) rfl (Eq.trans rfl (vb c91))) h41 ?_
      refine bi_ (v := .bool (decide (a41 ≤ 20000))) rfl rfl rfl rfl (go1 (j := 7) (t := 338) rfl (by kernel_rfl) rfl (Eq.trans rfl (vb c91))) rfl rfl (i_leq rfl) ?_
      refine pk_ (b := true) (v := .bool (decide (a41 ≤ 20000))) rfl rfl rfl rfl rfl (go0 rfl) (Eq.trans rfl (vb c91)) rfl ?_
      refine wpList_nil ?_
      exact then_n ⟨_, rfl, (Same.put (Same.put (Same.put (Same.refl _ _) rfl) rfl) rfl), (Eq.trans rfl (vb (Option.some.inj h))), (Below.refl _ _)⟩
    refine skp (no1 (j := 7) (t := 338) rfl (by kernel_rfl) rfl (Eq.trans rfl (vb c91)) rfl) rfl ?_
    refine skp (no1 (j := 7) (t := 338) rfl (by kernel_rfl) rfl (Eq.trans rfl (vb c91)) rfl) rfl ?_
    refine pk_ (b := false) (v := .bool false) rfl rfl rfl rfl rfl (go0 rfl) (Eq.trans rfl (vb c91)) rfl ?_
    refine wpList_nil ?_
    exact then_n ⟨_, rfl, (Same.put (Same.put (Same.put (Same.refl _ _) rfl) rfl) rfl), (Eq.trans rfl (vb (Option.some.inj h))), (Below.refl _ _)⟩
  clear e90; rintro g90 w90 ⟨S90, x90_341, bb90⟩
  refine nilt ?_
  rcases ifs h with ⟨c92, h⟩ | ⟨c92, h⟩
  · refine cT ?_ (Eq.trans x90_341 (vb c92)) rfl
    refine wp_skip ?_
    refine then_n ?_
    refine wp_seq ?_
    refine wp_block ?_
    refine wp_seq ?_
    refine wp_region_lit ?_
    refine m0 (.slice A26 l26.length k26) rfl rfl rfl rfl (Eq.trans (S90 26 rfl) h26) ?_
    refine m0 (.int .i64 a41) rfl rfl rfl rfl (Eq.trans (S90 41 rfl) h41) ?_
    obtain ⟨⟨r93_1, r93_2⟩, e93, h⟩ := bind_ h
    refine cl_ Try.func12 (by kernel_rfl) rfl rfl rfl rfl (go0 rfl) (argc (v := .slice A26 l26.length k26) rfl (argc (v := .int .i64 a41) rfl argn)) ?_
    refine (impl_FewestCoins.calls k A26 k26 l26 a41 _ _ _ (C26 _ bb90) q26 e93).mono ?_
    rintro e w93 ⟨rfl, bb93⟩
    refine ⟨_, rfl, ?_⟩
    refine m0 (.tuple #[.int .i64 r93_1, .bool r93_2]) rfl rfl rfl rfl rfl ?_
    refine x0 (.int .i64 r93_1) rfl rfl rfl rfl rfl rfl ?_
    refine x0 (.bool r93_2) rfl rfl rfl rfl rfl rfl ?_
    refine a0 (.int .i64 r93_1) rfl rfl rfl rfl rfl ?_
    refine a0 (.bool r93_2) rfl rfl rfl rfl rfl ?_
    refine nilt ?_
    refine wp_seq ?_
    refine wp_region_lit ?_
    obtain ⟨c94, h⟩ := ify h
    refine m0 (.bool true) rfl rfl rfl rfl (Eq.trans rfl (vb c94)) ?_
    refine nt_ (c := false) rfl rfl rfl (go0 rfl) rfl rfl ?_
    refine nilt ?_
    refine cF ?_ rfl rfl
    refine wp_skip ?_
    refine blk_n ?_
    refine then_n ?_
    exact laws_FnChangeLeft.w95 k r ws (laws_FnChangeLeft.l87 k n) ih87 _ _ A26 k26 l26 (Eq.trans (S90 26 rfl) h26) q26 (On.adv C26 (below_step bb90 bb93)) a27 (Eq.trans (S90 27 rfl) h27) a31 (Eq.trans (S90 31 rfl) h31) A35 k35 l35 (Eq.trans (S90 35 rfl) h35) q35 (On.adv C35 (below_step bb90 bb93)) b36 (Eq.trans (S90 36 rfl) h36) a41 (Eq.trans (S90 41 rfl) h41) (below_step B0 (below_step bb90 bb93)) h
  refine cF ?_ (Eq.trans x90_341 (vb c92)) rfl
  refine wp_exit ?_
  refine then_x ?_
  refine then_x ?_
  refine blk_x ?_
  refine then_n ?_
  exact laws_FnChangeLeft.w96 k r ws _ _ A26 k26 l26 (Eq.trans (S90 26 rfl) h26) q26 (On.adv C26 bb90) a27 (Eq.trans (S90 27 rfl) h27) a31 (Eq.trans (S90 31 rfl) h31) A35 k35 l35 (Eq.trans (S90 35 rfl) h35) q35 (On.adv C35 bb90) b36 (Eq.trans (S90 36 rfl) h36) (below_step B0 bb90) h
def laws_FnChangeLeft.p86 (k : Nat) (l26 : List Int) (a27 : Int) (a31 : Int) (l35 : List Int) (b36 : Bool) : Option Bool := laws_FnChangeLeft.l87 k k l26 a27 a31 l35 b36 (wrap64 (a27 + 1))
theorem laws_FnChangeLeft.w86 (k : Nat) (r : Bool) (ws : World) (f0 : Nat → Value) (w0 : World) (A26 : Option Addr) (k26 : Nat) (l26 : List Int) (h26 : f0 26 = .slice A26 l26.length k26) (q26 : l26.length ≤ k26) (C26 : On w0 fun x => Kd.C (Kd.int .i64) x A26 l26.length l26) (a27 : Int) (h27 : f0 27 = .int .i64 a27) (a31 : Int) (h31 : f0 31 = .int .i64 a31) (A35 : Option Addr) (k35 : Nat) (l35 : List Int) (h35 : f0 35 = .slice A35 l35.length k35) (q35 : l35.length ≤ k35) (C35 : On w0 fun x => Kd.C (Kd.int .i64) x A35 l35.length l35) (b36 : Bool) (h36 : f0 36 = .bool b36) (B0 : Below ws.heap.size ws w0) (h : laws_FnChangeLeft.p86 k l26 a27 a31 l35 b36 = some r) : Code.wp Try.prog (srn 2 (ct (srn 1 (sl (srn 18 laws_FnChangeLeft.B))))) (laws_FnChangeLeft.Q9 ws r) (fr 405 f0) w0 := by
 unfold laws_FnChangeLeft.p86 at h
 refine wp_seq ?_
 refine wp_seq ?_
 refine wp_region_lit ?_
 refine m0 (.int .i64 a27) rfl rfl rfl rfl h27 ?_
 refine bi_ (v := .int .i64 (wrap64 (a27 + 1))) rfl rfl rfl rfl (go0 rfl) rfl rfl (i_add rfl) ?_
 refine a0 (.int .i64 (wrap64 (a27 + 1))) rfl rfl rfl rfl rfl ?_
 refine nilt ?_
 refine wp_block ?_
 exact head_loop (laws_FnChangeLeft.w87 k r ws k _ _ A26 k26 l26 h26 q26 C26 a27 h27 a31 h31 A35 k35 l35 h35 q35 C35 b36 h36 (wrap64 (a27 + 1)) rfl B0 h)
def laws_FnChangeLeft.p73 (k : Nat) (l26 : List Int) (a27 : Int) (b28 : Bool) (a31 : Int) (l35 : List Int) (b36 : Bool) : Option Bool := if b28 = true then (if (decide (a31 < 0)) = true then none else if ((a27 == (-1)) != (a31 == 0)) = true then none else if (decide ((0 : Int) ≤ 0) && decide (0 < (l26.length : Int))) = true then (if ((a31 == 0) != ((rd l26 0) == 1)) = true then none else if (decide ((wrap64 (a27 + 1)) < a31)) = true then none else (if (decide (0 ≤ a27)) = true then (some (decide (a27 ≤ 20000))) else (some false)).bind fun d81 => if d81 = true then ((impl_FewestCoins.f k l26 a27).bind fun t84 => if t84.2 = true then none else laws_FnChangeLeft.p86 k l26 a27 a31 l35 b36) else (laws_FnChangeLeft.p86 k l26 a27 a31 l35 b36)) else none) else (laws_FnChangeLeft.p105 k l26 l35 b36)
theorem laws_FnChangeLeft.w73 (k : Nat) (r : Bool) (ws : World) (f0 : Nat → Value) (w0 : World) (A26 : Option Addr) (k26 : Nat) (l26 : List Int) (h26 : f0 26 = .slice A26 l26.length k26) (q26 : l26.length ≤ k26) (C26 : On w0 fun x => Kd.C (Kd.int .i64) x A26 l26.length l26) (a27 : Int) (h27 : f0 27 = .int .i64 a27) (b28 : Bool) (h28 : f0 28 = .bool b28) (a31 : Int) (h31 : f0 31 = .int .i64 a31) (A35 : Option Addr) (k35 : Nat) (l35 : List Int) (h35 : f0 35 = .slice A35 l35.length k35) (q35 : l35.length ≤ k35) (C35 : On w0 fun x => Kd.C (Kd.int .i64) x A35 l35.length l35) (b36 : Bool) (h36 : f0 36 = .bool b36) (B0 : Below ws.heap.size ws w0) (h : laws_FnChangeLeft.p73 k l26 a27 b28 a31 l35 b36 = some r) : Code.wp Try.prog (srn 18 laws_FnChangeLeft.B) (laws_FnChangeLeft.Q0 ws r) (fr 405 f0) w0 := by
 unfold laws_FnChangeLeft.p73 at h
 refine wp_seq ?_
 refine wp_seq ?_
 refine wp_region_lit ?_
 refine m0 (.bool b28) rfl rfl rfl rfl h28 ?_
 refine nilt ?_
 rcases ifs h with ⟨c74, h⟩ | ⟨c74, h⟩
 · refine cT ?_ (Eq.trans rfl (vb c74)) rfl
   refine wp_seq ?_
   refine wp_seq ?_
   refine wp_region_lit ?_
   refine m0 (.int .i64 a31) rfl rfl rfl rfl h31 ?_
   obtain ⟨c75, h⟩ := ifn h
   refine bi_ (v := .bool (false)) rfl rfl rfl rfl (go0 rfl) rfl rfl (i_lss c75) ?_
   refine m0 (.bool false) rfl rfl rfl rfl rfl ?_
   refine mv_ (v := .int .i64 a27) rfl rfl rfl (go1 (j := 2) (t := 294) rfl (by kernel_rfl) rfl rfl) h27 ?_
   refine bi_ (v := .bool ((a27 == (-1)))) rfl rfl rfl rfl (go1 (j := 2) (t := 294) rfl (by kernel_rfl) rfl rfl) rfl rfl (i_eql rfl) ?_
   refine mv_ (v := .int .i64 a31) rfl rfl rfl (go1 (j := 2) (t := 294) rfl (by kernel_rfl) rfl rfl) h31 ?_
   refine bi_ (v := .bool ((a31 == 0))) rfl rfl rfl rfl (go1 (j := 2) (t := 294) rfl (by kernel_rfl) rfl rfl) rfl rfl (i_eql rfl) ?_
   obtain ⟨c76, h⟩ := ifn h
   refine bb_ (v := .bool (false)) rfl rfl rfl rfl (go1 (j := 2) (t := 294) rfl (by kernel_rfl) rfl rfl) rfl rfl (b_neq laws_FnChangeLeft.u4 c76) ?_
   refine pk_ (b := false) (v := .bool false) rfl rfl rfl rfl rfl (go0 rfl) rfl rfl ?_
   refine m0 (.bool false) rfl rfl rfl rfl rfl ?_
   refine mv_ (v := .int .i64 a31) rfl rfl rfl (go1 (j := 9) (t := 301) rfl (by kernel_rfl) rfl rfl) h31 ?_
   refine bi_ (v := .bool ((a31 == 0))) rfl rfl rfl rfl (go1 (j := 9) (t := 301) rfl (by kernel_rfl) rfl rfl) rfl rfl (i_eql rfl) ?_
   refine mv_ (v := .slice A26 l26.length k26) rfl rfl rfl (go1 (j := 9) (t := 301) rfl (by kernel_rfl) rfl rfl) h26 ?_
   obtain ⟨c77, h⟩ := ify h
   replace c77 := bnd c77
   obtain ⟨ad78, ead78, xad78⟩ := at_int_on C26 0 c77.1 (by have := c77.2; omega)
   refine ix_ (q := 0) laws_FnChangeLeft.u24 laws_FnChangeLeft.z24 rfl rfl rfl rfl (go1 (j := 9) (t := 301) rfl (by kernel_rfl) rfl rfl) rfl rfl ead78 c77 ?_
   refine ld_ (v := .int .i64 (rd l26 0)) rfl rfl rfl (go1 (j := 9) (t := 301) rfl (by kernel_rfl) rfl rfl) rfl (load_i laws_FnChangeLeft.u3 (xad78 _ (Below.refl _ _))) ?_
   refine bi_ (v := .bool (((rd l26 0) == 1))) rfl rfl rfl rfl (go1 (j := 9) (t := 301) rfl (by kernel_rfl) rfl rfl) rfl rfl (i_eql rfl) ?_
   obtain ⟨c79, h⟩ := ifn h
   refine bb_ (v := .bool (false)) rfl rfl rfl rfl (go1 (j := 9) (t := 301) rfl (by kernel_rfl) rfl rfl) rfl rfl (b_neq laws_FnChangeLeft.u4 c79) ?_
   refine pk_ (b := false) (v := .bool false) rfl rfl rfl rfl rfl (go0 rfl) rfl rfl ?_
   refine m0 (.bool false) rfl rfl rfl rfl rfl ?_
   refine mv_ (v := .int .i64 a31) rfl rfl rfl (go1 (j := 18) (t := 310) rfl (by kernel_rfl) rfl rfl) h31 ?_
   refine mv_ (v := .int .i64 a27) rfl rfl rfl (go1 (j := 18) (t := 310) rfl (by kernel_rfl) rfl rfl) h27 ?_
   refine bi_ (v := .int .i64 (wrap64 (a27 + 1))) rfl rfl rfl rfl (go1 (j := 18) (t := 310) rfl (by kernel_rfl) rfl rfl) rfl rfl (i_add rfl) ?_
   obtain ⟨c80, h⟩ := ifn h
   refine bi_ (v := .bool (false)) rfl rfl rfl rfl (go1 (j := 18) (t := 310) rfl (by kernel_rfl) rfl rfl) rfl rfl (i_gtr c80) ?_
   refine pk_ (b := false) (v := .bool false) rfl rfl rfl rfl rfl (go0 rfl) rfl rfl ?_
   refine nilt ?_
   refine cF ?_ rfl rfl
   refine wp_skip ?_
   refine then_n ?_
   refine wp_seq ?_
   refine wp_seq ?_
   refine wp_region_lit ?_
   refine m0 (.int .i64 a27) rfl rfl rfl rfl h27 ?_
   refine bi_ (v := .bool (decide (0 ≤ a27))) rfl rfl rfl rfl (go0 rfl) rfl rfl (i_geq rfl) ?_
   refine m0 (.bool (decide (0 ≤ a27))) rfl rfl rfl rfl rfl ?_
   obtain ⟨d81, e81, h⟩ := bind_ h
   refine cut_ 3 (fun f g w' => Same 53 f g ∧ g 321 = .bool d81 ∧ Below w0.heap.size w0 w') ?_ ?_
   · clear h; have h := e81; clear e81
     rcases ifs h with ⟨c82, h⟩ | ⟨c82, h⟩
     · refine mv_ (v := .int .i64 a27) rfl rfl rfl (go1 (j := 2) (t := 318) rfl (by kernel_rfl) rfl (Eq.trans rfl (vb c82))) h27 ?_
       refine bi_ (v := .bool (decide (a27 ≤ 20000))) rfl rfl rfl rfl (go1 (j := 2) (t := 318) rfl (by kernel_rfl) rfl (Eq.trans rfl (vb c82))) rfl rfl (i_leq rfl) ?_
       refine pk_ (b := true) (v := .bool (decide (a27 ≤ 20000))) rfl rfl rfl rfl rfl (go0 rfl) (Eq.trans rfl (vb c82)) rfl ?_
       refine wpList_nil ?_
       exact then_n ⟨_, rfl, (Same.put (Same.put (Same.put (Same.refl _ _) rfl) rfl) rfl), (Eq.trans rfl (vb (Option.some.inj h))), (Below.refl _ _)⟩
     refine skp (no1 (j := 2) (t := 318) rfl (by kernel_rfl) rfl (Eq.trans rfl (vb c82)) rfl) rfl ?_
     refine skp (no1 (j := 2) (t := 318) rfl (by kernel_rfl) rfl (Eq.trans rfl (vb c82)) rfl) rfl ?_
     refine pk_ (b := false) (v := .bool false) rfl rfl rfl rfl rfl (go0 rfl) (Eq.trans rfl (vb c82)) rfl ?_
     refine wpList_nil ?_
     exact then_n ⟨_, rfl, (Same.put (Same.put (Same.put (Same.refl _ _) rfl) rfl) rfl), (Eq.trans rfl (vb (Option.some.inj h))), (Below.refl _ _)⟩
   clear e81; rintro g81 w81 ⟨S81, x81_321, bb81⟩
   refine nilt ?_
   rcases ifs h with ⟨c83, h⟩ | ⟨c83, h⟩
   · refine cT ?_ (Eq.trans x81_321 (vb c83)) rfl
     refine wp_seq ?_
     refine wp_region_lit ?_
     refine m0 (.slice A26 l26.length k26) rfl rfl rfl rfl (Eq.trans (S81 26 rfl) h26) ?_
     refine m0 (.int .i64 a27) rfl rfl rfl rfl (Eq.trans (S81 27 rfl) h27) ?_
     obtain ⟨⟨r84_1, r84_2⟩, e84, h⟩ := bind_ h
     refine cl_ Try.func12 (by kernel_rfl) rfl rfl rfl rfl (go0 rfl) (argc (v := .slice A26 l26.length k26) rfl (argc (v := .int .i64 a27) rfl argn)) ?_
     refine (impl_FewestCoins.calls k A26 k26 l26 a27 _ _ _ (C26 _ bb81) q26 e84).mono ?_
     rintro e w84 ⟨rfl, bb84⟩
     refine ⟨_, rfl, ?_⟩
     refine m0 (.tuple #[.int .i64 r84_1, .bool r84_2]) rfl rfl rfl rfl rfl ?_
     refine x0 (.int .i64 r84_1) rfl rfl rfl rfl rfl rfl ?_
     refine x0 (.bool r84_2) rfl rfl rfl rfl rfl rfl ?_
     refine a0 (.int .i64 r84_1) rfl rfl rfl rfl rfl ?_
     refine a0 (.bool r84_2) rfl rfl rfl rfl rfl ?_
     refine nilt ?_
     refine wp_seq ?_
     refine wp_region_lit ?_
     obtain ⟨c85, h⟩ := ifn h
     refine m0 (.bool false) rfl rfl rfl rfl (Eq.trans rfl (vb c85)) ?_
     refine nilt ?_
     refine cF ?_ rfl rfl
     refine wp_skip ?_
     refine then_n ?_
     exact laws_FnChangeLeft.w86 k r ws _ _ A26 k26 l26 (Eq.trans (S81 26 rfl) h26) q26 (On.adv C26 (below_step bb81 bb84)) a27 (Eq.trans (S81 27 rfl) h27) a31 (Eq.trans (S81 31 rfl) h31) A35 k35 l35 (Eq.trans (S81 35 rfl) h35) q35 (On.adv C35 (below_step bb81 bb84)) b36 (Eq.trans (S81 36 rfl) h36) (below_step B0 (below_step bb81 bb84)) h
   refine cF ?_ (Eq.trans x81_321 (vb c83)) rfl
   refine wp_skip ?_
   refine then_n ?_
   exact laws_FnChangeLeft.w86 k r ws _ _ A26 k26 l26 (Eq.trans (S81 26 rfl) h26) q26 (On.adv C26 bb81) a27 (Eq.trans (S81 27 rfl) h27) a31 (Eq.trans (S81 31 rfl) h31) A35 k35 l35 (Eq.trans (S81 35 rfl) h35) q35 (On.adv C35 bb81) b36 (Eq.trans (S81 36 rfl) h36) (below_step B0 bb81) h
 refine cF ?_ (Eq.trans rfl (vb c74)) rfl
 refine wp_skip ?_
 refine then_n ?_
 exact laws_FnChangeLeft.w105 k r ws _ _ A26 k26 l26 h26 q26 C26 A35 k35 l35 h35 q35 C35 b36 h36 B0 h
def laws_FnChangeLeft.p53 (k : Nat) (l1 : List Int) : Option Bool := (spec_DrawGreatestUnpaid.f k l1).bind fun r54_0 => (impl_GreatestUnpaid.f k r54_0).bind fun t55 => (spec_GreatestUnpaid.f k r54_0).bind fun t56 => (impl_CountUnpaid.f k r54_0).bind fun t57 => (spec_CountUnpaid.f k r54_0).bind fun t58 => (impl_NeedlessCoins.f k r54_0).bind fun t59 => (spec_NeedlessCoins.f k r54_0).bind fun t60 => if (t55.2 != t56.2) = true then none else if (t55.1 != t56.1) = true then none else if (t57.2 != t58.2) = true then none else if (t57.1 != t58.1) = true then none else if (t57.2 != t55.2) = true then none else if (t59.2 != t60.2) = true then none else (laws_tSame.f k t59.1 t60.1).bind fun r67_0 => if (!r67_0) = true then none else (impl_AreCoins.f k r54_0).bind fun r69_0 => if (t59.2 != r69_0) = true then none else (if t55.2 = true then (some (!t59.2)) else (some false)).bind fun d71 => if d71 = true then none else laws_FnChangeLeft.p73 k r54_0 t55.1 t55.2 t57.1 t59.1 t59.2
theorem laws_FnChangeLeft.w53 (k : Nat) (r : Bool) (ws : World) (f0 : Nat → Value) (w0 : World) (A1 : Option Addr) (k1 : Nat) (l1 : List Int) (h1 : f0 1 = .slice A1 l1.length k1) (q1 : l1.length ≤ k1) (C1 : On w0 fun x => Kd.C (Kd.int .u8) x A1 l1.length l1) (B0 : Below ws.heap.size ws w0) (h : laws_FnChangeLeft.p53 k l1 = some r) : Code.wp Try.prog (srn 10 laws_FnChangeLeft.B) (laws_FnChangeLeft.Q0 ws r) (fr 405 f0) w0 := by
 unfold laws_FnChangeLeft.p53 at h
 refine wp_seq ?_
 refine wp_region_lit ?_
 refine m0 (.slice A1 l1.length k1) rfl rfl rfl rfl h1 ?_
 obtain ⟨r54_0, e54, h⟩ := bind_ h
 refine cl_ Try.func14 (by kernel_rfl) rfl rfl rfl rfl (go0 rfl) (argc (v := .slice A1 l1.length k1) rfl argn) ?_
 refine (spec_DrawGreatestUnpaid.calls k A1 k1 l1 _ _ (C1 _ (Below.refl _ _)) q1 e54).mono ?_
 rintro e w54 ⟨u54_0, rfl, ou54_0, bb54⟩
 obtain ⟨Au54_0, ku54_0, xu54_0, qu54_0, Cu54_0⟩ := V3 ou54_0; subst xu54_0
 refine ⟨_, rfl, ?_⟩
 refine a0 (.slice Au54_0 r54_0.length ku54_0) rfl rfl rfl rfl rfl ?_
 refine nilt ?_
 refine wp_seq ?_
 refine wp_region_lit ?_
 refine m0 (.slice Au54_0 r54_0.length ku54_0) rfl rfl rfl rfl rfl ?_
 obtain ⟨⟨r55_1, r55_2⟩, e55, h⟩ := bind_ h
 refine cl_ Try.func15 (by kernel_rfl) rfl rfl rfl rfl (go0 rfl) (argc (v := .slice Au54_0 r54_0.length ku54_0) rfl argn) ?_
 refine (impl_GreatestUnpaid.calls k Au54_0 ku54_0 r54_0 _ _ _ (Cu54_0 _ (Below.refl _ _)) qu54_0 e55).mono ?_
 rintro e w55 ⟨rfl, bb55⟩
 refine ⟨_, rfl, ?_⟩
 refine m0 (.tuple #[.int .i64 r55_1, .bool r55_2]) rfl rfl rfl rfl rfl ?_
 refine x0 (.int .i64 r55_1) rfl rfl rfl rfl rfl rfl ?_
 refine x0 (.bool r55_2) rfl rfl rfl rfl rfl rfl ?_
 refine a0 (.int .i64 r55_1) rfl rfl rfl rfl rfl ?_
 refine a0 (.bool r55_2) rfl rfl rfl rfl rfl ?_
 refine nilt ?_
 refine wp_seq ?_
 refine wp_region_lit ?_
 refine m0 (.slice Au54_0 r54_0.length ku54_0) rfl rfl rfl rfl rfl ?_
 obtain ⟨⟨r56_1, r56_2⟩, e56, h⟩ := bind_ h
 refine cl_ Try.func16 (by kernel_rfl) rfl rfl rfl rfl (go0 rfl) (argc (v := .slice Au54_0 r54_0.length ku54_0) rfl argn) ?_
 refine (spec_GreatestUnpaid.calls k Au54_0 ku54_0 r54_0 _ _ _ (Cu54_0 _ bb55) qu54_0 e56).mono ?_
 rintro e w56 ⟨rfl, bb56⟩
 refine ⟨_, rfl, ?_⟩
 refine m0 (.tuple #[.int .i64 r56_1, .bool r56_2]) rfl rfl rfl rfl rfl ?_
 refine x0 (.int .i64 r56_1) rfl rfl rfl rfl rfl rfl ?_
 refine x0 (.bool r56_2) rfl rfl rfl rfl rfl rfl ?_
 refine a0 (.int .i64 r56_1) rfl rfl rfl rfl rfl ?_
 refine a0 (.bool r56_2) rfl rfl rfl rfl rfl ?_
 refine nilt ?_
 refine wp_seq ?_
 refine wp_region_lit ?_
 refine m0 (.slice Au54_0 r54_0.length ku54_0) rfl rfl rfl rfl rfl ?_
 obtain ⟨⟨r57_1, r57_2⟩, e57, h⟩ := bind_ h
 refine cl_ Try.func17 (by kernel_rfl) rfl rfl rfl rfl (go0 rfl) (argc (v := .slice Au54_0 r54_0.length ku54_0) rfl argn) ?_
 refine (impl_CountUnpaid.calls k Au54_0 ku54_0 r54_0 _ _ _ (Cu54_0 _ (below_step bb55 bb56)) qu54_0 e57).mono ?_
 rintro e w57 ⟨rfl, bb57⟩
 refine ⟨_, rfl, ?_⟩
 refine m0 (.tuple #[.int .i64 r57_1, .bool r57_2]) rfl rfl rfl rfl rfl ?_
 refine x0 (.int .i64 r57_1) rfl rfl rfl rfl rfl rfl ?_
 refine x0 (.bool r57_2) rfl rfl rfl rfl rfl rfl ?_
 refine a0 (.int .i64 r57_1) rfl rfl rfl rfl rfl ?_
 refine a0 (.bool r57_2) rfl rfl rfl rfl rfl ?_
 refine nilt ?_
 refine wp_seq ?_
 refine wp_region_lit ?_
 refine m0 (.slice Au54_0 r54_0.length ku54_0) rfl rfl rfl rfl rfl ?_
 obtain ⟨⟨r58_1, r58_2⟩, e58, h⟩ := bind_ h
 refine cl_ Try.func18 (by kernel_rfl) rfl rfl rfl rfl (go0 rfl) (argc (v := .slice Au54_0 r54_0.length ku54_0) rfl argn) ?_
 refine (spec_CountUnpaid.calls k Au54_0 ku54_0 r54_0 _ _ _ (Cu54_0 _ (below_step (below_step bb55 bb56) bb57)) qu54_0 e58).mono ?_
 rintro e w58 ⟨rfl, bb58⟩
 refine ⟨_, rfl, ?_⟩
 refine m0 (.tuple #[.int .i64 r58_1, .bool r58_2]) rfl rfl rfl rfl rfl ?_
 refine x0 (.int .i64 r58_1) rfl rfl rfl rfl rfl rfl ?_
 refine x0 (.bool r58_2) rfl rfl rfl rfl rfl rfl ?_
 refine a0 (.int .i64 r58_1) rfl rfl rfl rfl rfl ?_
 refine a0 (.bool r58_2) rfl rfl rfl rfl rfl ?_
 refine nilt ?_
 refine wp_seq ?_
 refine wp_region_lit ?_
 refine m0 (.slice Au54_0 r54_0.length ku54_0) rfl rfl rfl rfl rfl ?_
 obtain ⟨⟨r59_1, r59_2⟩, e59, h⟩ := bind_ h
 refine cl_ Try.func19 (by kernel_rfl) rfl rfl rfl rfl (go0 rfl) (argc (v := .slice Au54_0 r54_0.length ku54_0) rfl argn) ?_
 refine (impl_NeedlessCoins.calls k Au54_0 ku54_0 r54_0 _ _ _ (Cu54_0 _ (below_step (below_step (below_step bb55 bb56) bb57) bb58)) qu54_0 e59).mono ?_
 rintro e w59 ⟨u59_0, rfl, ou59_0, bb59⟩
 obtain ⟨Au59_0, ku59_0, xu59_0, qu59_0, Cu59_0⟩ := R3 ou59_0; subst xu59_0
 refine ⟨_, rfl, ?_⟩
 refine m0 (.tuple #[.slice Au59_0 r59_1.length ku59_0, .bool r59_2]) rfl rfl rfl rfl rfl ?_
 refine x0 (.slice Au59_0 r59_1.length ku59_0) rfl rfl rfl rfl rfl rfl ?_
 refine x0 (.bool r59_2) rfl rfl rfl rfl rfl rfl ?_
 refine a0 (.slice Au59_0 r59_1.length ku59_0) rfl rfl rfl rfl rfl ?_
 refine a0 (.bool r59_2) rfl rfl rfl rfl rfl ?_
 refine nilt ?_
 refine wp_seq ?_
 refine wp_region_lit ?_
 refine m0 (.slice Au54_0 r54_0.length ku54_0) rfl rfl rfl rfl rfl ?_
 obtain ⟨⟨r60_1, r60_2⟩, e60, h⟩ := bind_ h
 refine cl_ Try.func20 (by kernel_rfl) rfl rfl rfl rfl (go0 rfl) (argc (v := .slice Au54_0 r54_0.length ku54_0) rfl argn) ?_
 refine (spec_NeedlessCoins.calls k Au54_0 ku54_0 r54_0 _ _ _ (Cu54_0 _ (below_step (below_step (below_step (below_step bb55 bb56) bb57) bb58) bb59)) qu54_0 e60).mono ?_
 rintro e w60 ⟨u60_0, rfl, ou60_0, bb60⟩
 obtain ⟨Au60_0, ku60_0, xu60_0, qu60_0, Cu60_0⟩ := R3 ou60_0; subst xu60_0
 refine ⟨_, rfl, ?_⟩
 refine m0 (.tuple #[.slice Au60_0 r60_1.length ku60_0, .bool r60_2]) rfl rfl rfl rfl rfl ?_
 refine x0 (.slice Au60_0 r60_1.length ku60_0) rfl rfl rfl rfl rfl rfl ?_
 refine x0 (.bool r60_2) rfl rfl rfl rfl rfl rfl ?_
 refine a0 (.slice Au60_0 r60_1.length ku60_0) rfl rfl rfl rfl rfl ?_
 refine a0 (.bool r60_2) rfl rfl rfl rfl rfl ?_
 refine nilt ?_
 refine wp_seq ?_
 refine wp_seq ?_
 refine wp_region_lit ?_
 refine m0 (.bool r55_2) rfl rfl rfl rfl rfl ?_
 refine m0 (.bool r56_2) rfl rfl rfl rfl rfl ?_
 obtain ⟨c61, h⟩ := ifn h
 refine bb_ (v := .bool (false)) rfl rfl rfl rfl (go0 rfl) rfl rfl (b_neq laws_FnChangeLeft.u4 c61) ?_
 refine m0 (.bool false) rfl rfl rfl rfl rfl ?_
 refine mv_ (v := .int .i64 r55_1) rfl rfl rfl (go1 (j := 3) (t := 247) rfl (by kernel_rfl) rfl rfl) rfl ?_
 refine mv_ (v := .int .i64 r56_1) rfl rfl rfl (go1 (j := 3) (t := 247) rfl (by kernel_rfl) rfl rfl) rfl ?_
 obtain ⟨c62, h⟩ := ifn h
 refine bi_ (v := .bool (false)) rfl rfl rfl rfl (go1 (j := 3) (t := 247) rfl (by kernel_rfl) rfl rfl) rfl rfl (i_neq c62) ?_
 refine pk_ (b := false) (v := .bool false) rfl rfl rfl rfl rfl (go0 rfl) rfl rfl ?_
 refine m0 (.bool false) rfl rfl rfl rfl rfl ?_
 refine mv_ (v := .bool r57_2) rfl rfl rfl (go1 (j := 8) (t := 252) rfl (by kernel_rfl) rfl rfl) rfl ?_
 refine mv_ (v := .bool r58_2) rfl rfl rfl (go1 (j := 8) (t := 252) rfl (by kernel_rfl) rfl rfl) rfl ?_
 obtain ⟨c63, h⟩ := ifn h
 refine bb_ (v := .bool (false)) rfl rfl rfl rfl (go1 (j := 8) (t := 252) rfl (by kernel_rfl) rfl rfl) rfl rfl (b_neq laws_FnChangeLeft.u4 c63) ?_
 refine pk_ (b := false) (v := .bool false) rfl rfl rfl rfl rfl (go0 rfl) rfl rfl ?_
 refine m0 (.bool false) rfl rfl rfl rfl rfl ?_
 refine mv_ (v := .int .i64 r57_1) rfl rfl rfl (go1 (j := 13) (t := 257) rfl (by kernel_rfl) rfl rfl) rfl ?_
 refine mv_ (v := .int .i64 r58_1) rfl rfl rfl (go1 (j := 13) (t := 257) rfl (by kernel_rfl) rfl rfl) rfl ?_
 obtain ⟨c64, h⟩ := ifn h
 refine bi_ (v := .bool (false)) rfl rfl rfl rfl (go1 (j := 13) (t := 257) rfl (by kernel_rfl) rfl rfl) rfl rfl (i_neq c64) ?_
 refine pk_ (b := false) (v := .bool false) rfl rfl rfl rfl rfl (go0 rfl) rfl rfl ?_
 refine m0 (.bool false) rfl rfl rfl rfl rfl ?_
 refine mv_ (v := .bool r57_2) rfl rfl rfl (go1 (j := 18) (t := 262) rfl (by kernel_rfl) rfl rfl) rfl ?_
 refine mv_ (v := .bool r55_2) rfl rfl rfl (go1 (j := 18) (t := 262) rfl (by kernel_rfl) rfl rfl) rfl ?_
 obtain ⟨c65, h⟩ := ifn h
 refine bb_ (v := .bool (false)) rfl rfl rfl rfl (go1 (j := 18) (t := 262) rfl (by kernel_rfl) rfl rfl) rfl rfl (b_neq laws_FnChangeLeft.u4 c65) ?_
 refine pk_ (b := false) (v := .bool false) rfl rfl rfl rfl rfl (go0 rfl) rfl rfl ?_
 refine m0 (.bool false) rfl rfl rfl rfl rfl ?_
 refine mv_ (v := .bool r59_2) rfl rfl rfl (go1 (j := 23) (t := 267) rfl (by kernel_rfl) rfl rfl) rfl ?_
 refine mv_ (v := .bool r60_2) rfl rfl rfl (go1 (j := 23) (t := 267) rfl (by kernel_rfl) rfl rfl) rfl ?_
 obtain ⟨c66, h⟩ := ifn h
 refine bb_ (v := .bool (false)) rfl rfl rfl rfl (go1 (j := 23) (t := 267) rfl (by kernel_rfl) rfl rfl) rfl rfl (b_neq laws_FnChangeLeft.u4 c66) ?_
 refine pk_ (b := false) (v := .bool false) rfl rfl rfl rfl rfl (go0 rfl) rfl rfl ?_
 refine m0 (.bool false) rfl rfl rfl rfl rfl ?_
 refine mv_ (v := .slice Au59_0 r59_1.length ku59_0) rfl rfl rfl (go1 (j := 28) (t := 272) rfl (by kernel_rfl) rfl rfl) rfl ?_
 refine mv_ (v := .slice Au60_0 r60_1.length ku60_0) rfl rfl rfl (go1 (j := 28) (t := 272) rfl (by kernel_rfl) rfl rfl) rfl ?_
 obtain ⟨r67_0, e67, h⟩ := bind_ h
 refine cl_ Try.func11 (by kernel_rfl) rfl rfl rfl rfl (go1 (j := 28) (t := 272) rfl (by kernel_rfl) rfl rfl) (argc (v := .slice Au59_0 r59_1.length ku59_0) rfl (argc (v := .slice Au60_0 r60_1.length ku60_0) rfl argn)) ?_
 refine (laws_tSame.calls k Au59_0 ku59_0 r59_1 Au60_0 ku60_0 r60_1 _ _ (Cu59_0 _ bb60) qu59_0 (Cu60_0 _ (Below.refl _ _)) qu60_0 e67).mono ?_
 rintro e w67 ⟨rfl, d67⟩
 have bb67 := Drawn0.below d67
 refine ⟨_, rfl, ?_⟩
 obtain ⟨c68, h⟩ := ifn h
 refine nt_ (c := false) rfl rfl rfl (go1 (j := 28) (t := 272) rfl (by kernel_rfl) rfl rfl) rfl c68 ?_
 refine pk_ (b := false) (v := .bool false) rfl rfl rfl rfl rfl (go0 rfl) rfl rfl ?_
 refine m0 (.bool false) rfl rfl rfl rfl rfl ?_
 refine mv_ (v := .bool r59_2) rfl rfl rfl (go1 (j := 34) (t := 278) rfl (by kernel_rfl) rfl rfl) rfl ?_
 refine mv_ (v := .slice Au54_0 r54_0.length ku54_0) rfl rfl rfl (go1 (j := 34) (t := 278) rfl (by kernel_rfl) rfl rfl) rfl ?_
 obtain ⟨r69_0, e69, h⟩ := bind_ h
 refine cl_ Try.func21 (by kernel_rfl) rfl rfl rfl rfl (go1 (j := 34) (t := 278) rfl (by kernel_rfl) rfl rfl) (argc (v := .slice Au54_0 r54_0.length ku54_0) rfl argn) ?_
 refine (impl_AreCoins.calls k Au54_0 ku54_0 r54_0 _ _ (Cu54_0 _ (below_step (below_step (below_step (below_step (below_step (below_step bb55 bb56) bb57) bb58) bb59) bb60) bb67)) qu54_0 e69).mono ?_
 rintro e w69 ⟨rfl, bb69⟩
 refine ⟨_, rfl, ?_⟩
 obtain ⟨c70, h⟩ := ifn h
 refine bb_ (v := .bool (false)) rfl rfl rfl rfl (go1 (j := 34) (t := 278) rfl (by kernel_rfl) rfl rfl) rfl rfl (b_neq laws_FnChangeLeft.u4 c70) ?_
 refine pk_ (b := false) (v := .bool false) rfl rfl rfl rfl rfl (go0 rfl) rfl rfl ?_
 refine m0 (.bool false) rfl rfl rfl rfl rfl ?_
 refine mv_ (v := .bool r55_2) rfl rfl rfl (go1 (j := 40) (t := 284) rfl (by kernel_rfl) rfl rfl) rfl ?_
 refine mv_ (v := .bool r55_2) rfl rfl rfl (go1 (j := 40) (t := 284) rfl (by kernel_rfl) rfl rfl) rfl ?_
 obtain ⟨d71, e71, h⟩ := bind_ h
 replace h := ifn h
 obtain ⟨y71, h⟩ := h
 subst y71
 refine cut_ 3 (fun f g w' => Same 53 f g ∧ g 289 = .bool false ∧ g 284 = .bool false ∧ Below w69.heap.size w69 w') ?_ ?_
 · clear h; have h := e71; clear e71
   rcases ifs h with ⟨c72, h⟩ | ⟨c72, h⟩
   · refine mv_ (v := .bool r59_2) rfl rfl rfl (go1 (j := 42) (t := 286) rfl (by kernel_rfl) rfl (Eq.trans rfl (vb c72))) rfl ?_
     refine nt_ (c := !r59_2) rfl rfl rfl (go1 (j := 42) (t := 286) rfl (by kernel_rfl) rfl (Eq.trans rfl (vb c72))) rfl rfl ?_
     refine pk_ (b := true) (v := .bool (!r59_2)) rfl rfl rfl rfl rfl (go1 (j := 40) (t := 284) rfl (by kernel_rfl) rfl rfl) (Eq.trans rfl (vb c72)) rfl ?_
     refine wpList_nil ?_
     exact then_n ⟨_, rfl, (Same.put (Same.put (Same.put (Same.refl _ _) rfl) rfl) rfl), (Eq.trans rfl (vb (Option.some.inj h))), rfl, (Below.refl _ _)⟩
   refine skp (no1 (j := 42) (t := 286) rfl (by kernel_rfl) rfl (Eq.trans rfl (vb c72)) rfl) rfl ?_
   refine skp (no1 (j := 42) (t := 286) rfl (by kernel_rfl) rfl (Eq.trans rfl (vb c72)) rfl) rfl ?_
   refine pk_ (b := false) (v := .bool false) rfl rfl rfl rfl rfl (go1 (j := 40) (t := 284) rfl (by kernel_rfl) rfl rfl) (Eq.trans rfl (vb c72)) rfl ?_
   refine wpList_nil ?_
   exact then_n ⟨_, rfl, (Same.put (Same.put (Same.put (Same.refl _ _) rfl) rfl) rfl), (Eq.trans rfl (vb (Option.some.inj h))), rfl, (Below.refl _ _)⟩
 clear e71; rintro g71 w71 ⟨S71, x71_289, x71_284, bb71⟩
 refine pk_ (b := false) (v := .bool false) rfl rfl rfl rfl rfl (go0 rfl) x71_284 x71_289 ?_
 refine nilt ?_
 refine cF ?_ rfl rfl
 refine wp_skip ?_
 refine then_n ?_
 exact laws_FnChangeLeft.w73 k r ws _ _ Au54_0 ku54_0 r54_0 (Eq.trans (S71 26 rfl) rfl) qu54_0 (On.adv Cu54_0 (below_step (below_step (below_step (below_step (below_step (below_step (below_step (below_step bb55 bb56) bb57) bb58) bb59) bb60) bb67) bb69) bb71)) r55_1 (Eq.trans (S71 27 rfl) rfl) r55_2 (Eq.trans (S71 28 rfl) rfl) r57_1 (Eq.trans (S71 31 rfl) rfl) Au59_0 ku59_0 r59_1 (Eq.trans (S71 35 rfl) rfl) qu59_0 (On.adv Cu59_0 (below_step (below_step (below_step bb60 bb67) bb69) bb71)) r59_2 (Eq.trans (S71 36 rfl) rfl) (below_step B0 (below_step (below_step (below_step (below_step (below_step (below_step (below_step (below_step (below_step bb54 bb55) bb56) bb57) bb58) bb59) bb60) bb67) bb69) bb71)) h
def laws_FnChangeLeft.p46 (k : Nat) (l1 : List Int) (l5 : List Int) (l6 : List Int) (a7 : Int) (b12 : Bool) (a21 : Int) : Option Bool := (if (decide (a7 ≤ a21)) = true then (some (decide ((wrap64 (a21 - a7)) ≤ 20000))) else (some false)).bind fun d47 => if d47 = true then ((impl_CanChange.f k l5 l6 (wrap64 (a21 - a7))).bind fun t50 => if t50.2 = true then (if (t50.1 != b12) = true then none else laws_FnChangeLeft.p53 k l1) else none) else (laws_FnChangeLeft.p53 k l1)
theorem laws_FnChangeLeft.w46 (k : Nat) (r : Bool) (ws : World) (f0 : Nat → Value) (w0 : World) (A1 : Option Addr) (k1 : Nat) (l1 : List Int) (h1 : f0 1 = .slice A1 l1.length k1) (q1 : l1.length ≤ k1) (C1 : On w0 fun x => Kd.C (Kd.int .u8) x A1 l1.length l1) (A5 : Option Addr) (k5 : Nat) (l5 : List Int) (h5 : f0 5 = .slice A5 l5.length k5) (q5 : l5.length ≤ k5) (C5 : On w0 fun x => Kd.C (Kd.int .i64) x A5 l5.length l5) (A6 : Option Addr) (k6 : Nat) (l6 : List Int) (h6 : f0 6 = .slice A6 l6.length k6) (q6 : l6.length ≤ k6) (C6 : On w0 fun x => Kd.C (Kd.int .i64) x A6 l6.length l6) (a7 : Int) (h7 : f0 7 = .int .i64 a7) (b12 : Bool) (h12 : f0 12 = .bool b12) (a21 : Int) (h21 : f0 21 = .int .i64 a21) (B0 : Below ws.heap.size ws w0) (h : laws_FnChangeLeft.p46 k l1 l5 l6 a7 b12 a21 = some r) : Code.wp Try.prog (srn 2 (ct (srn 1 (sl (srn 9 laws_FnChangeLeft.B))))) (laws_FnChangeLeft.Q5 ws r) (fr 405 f0) w0 := by
 unfold laws_FnChangeLeft.p46 at h
 refine wp_seq ?_
 refine wp_region_lit ?_
 refine m0 (.int .i64 a21) rfl rfl rfl rfl h21 ?_
 refine m0 (.int .i64 a7) rfl rfl rfl rfl h7 ?_
 refine bi_ (v := .bool (decide (a7 ≤ a21))) rfl rfl rfl rfl (go0 rfl) rfl rfl (i_geq rfl) ?_
 refine m0 (.bool (decide (a7 ≤ a21))) rfl rfl rfl rfl rfl ?_
 obtain ⟨d47, e47, h⟩ := bind_ h
 refine cut_ 5 (fun f g w' => Same 53 f g ∧ g 195 = .bool d47 ∧ Below w0.heap.size w0 w') ?_ ?_
 · clear h; have h := e47; clear e47
   rcases ifs h with ⟨c48, h⟩ | ⟨c48, h⟩
   · refine mv_ (v := .int .i64 a21) rfl rfl rfl (go1 (j := 3) (t := 190) rfl (by kernel_rfl) rfl (Eq.trans rfl (vb c48))) h21 ?_
     refine mv_ (v := .int .i64 a7) rfl rfl rfl (go1 (j := 3) (t := 190) rfl (by kernel_rfl) rfl (Eq.trans rfl (vb c48))) h7 ?_
     refine bi_ (v := .int .i64 (wrap64 (a21 - a7))) rfl rfl rfl rfl (go1 (j := 3) (t := 190) rfl (by kernel_rfl) rfl (Eq.trans rfl (vb c48))) rfl rfl (i_sub rfl) ?_
     refine bi_ (v := .bool (decide ((wrap64 (a21 - a7)) ≤ 20000))) rfl rfl rfl rfl (go1 (j := 3) (t := 190) rfl (by kernel_rfl) rfl (Eq.trans rfl (vb c48))) rfl rfl (i_leq rfl) ?_
     refine pk_ (b := true) (v := .bool (decide ((wrap64 (a21 - a7)) ≤ 20000))) rfl rfl rfl rfl rfl (go0 rfl) (Eq.trans rfl (vb c48)) rfl ?_
     refine wpList_nil ?_
     exact then_n ⟨_, rfl, (Same.put (Same.put (Same.put (Same.put (Same.put (Same.refl _ _) rfl) rfl) rfl) rfl) rfl), (Eq.trans rfl (vb (Option.some.inj h))), (Below.refl _ _)⟩
   refine skp (no1 (j := 3) (t := 190) rfl (by kernel_rfl) rfl (Eq.trans rfl (vb c48)) rfl) rfl ?_
   refine skp (no1 (j := 3) (t := 190) rfl (by kernel_rfl) rfl (Eq.trans rfl (vb c48)) rfl) rfl ?_
   refine skp (no1 (j := 3) (t := 190) rfl (by kernel_rfl) rfl (Eq.trans rfl (vb c48)) rfl) rfl ?_
   refine skp (no1 (j := 3) (t := 190) rfl (by kernel_rfl) rfl (Eq.trans rfl (vb c48)) rfl) rfl ?_
   refine pk_ (b := false) (v := .bool false) rfl rfl rfl rfl rfl (go0 rfl) (Eq.trans rfl (vb c48)) rfl ?_
   refine wpList_nil ?_
   exact then_n ⟨_, rfl, (Same.put (Same.put (Same.put (Same.put (Same.put (Same.refl _ _) rfl) rfl) rfl) rfl) rfl), (Eq.trans rfl (vb (Option.some.inj h))), (Below.refl _ _)⟩
 clear e47; rintro g47 w47 ⟨S47, x47_195, bb47⟩
 refine nilt ?_
 rcases ifs h with ⟨c49, h⟩ | ⟨c49, h⟩
 · refine cT ?_ (Eq.trans x47_195 (vb c49)) rfl
   refine wp_seq ?_
   refine wp_region_lit ?_
   refine m0 (.slice A5 l5.length k5) rfl rfl rfl rfl (Eq.trans (S47 5 rfl) h5) ?_
   refine m0 (.slice A6 l6.length k6) rfl rfl rfl rfl (Eq.trans (S47 6 rfl) h6) ?_
   refine m0 (.int .i64 a21) rfl rfl rfl rfl (Eq.trans (S47 21 rfl) h21) ?_
   refine m0 (.int .i64 a7) rfl rfl rfl rfl (Eq.trans (S47 7 rfl) h7) ?_
   refine bi_ (v := .int .i64 (wrap64 (a21 - a7))) rfl rfl rfl rfl (go0 rfl) rfl rfl (i_sub rfl) ?_
   obtain ⟨⟨r50_1, r50_2⟩, e50, h⟩ := bind_ h
   refine cl_ Try.func9 (by kernel_rfl) rfl rfl rfl rfl (go0 rfl) (argc (v := .slice A5 l5.length k5) rfl (argc (v := .slice A6 l6.length k6) rfl (argc (v := .int .i64 (wrap64 (a21 - a7))) rfl argn))) ?_
   refine (impl_CanChange.calls k A5 k5 l5 A6 k6 l6 (wrap64 (a21 - a7)) _ _ _ (C5 _ bb47) q5 (C6 _ bb47) q6 e50).mono ?_
   rintro e w50 ⟨rfl, bb50⟩
   refine ⟨_, rfl, ?_⟩
   refine m0 (.tuple #[.bool r50_1, .bool r50_2]) rfl rfl rfl rfl rfl ?_
   refine x0 (.bool r50_1) rfl rfl rfl rfl rfl rfl ?_
   refine x0 (.bool r50_2) rfl rfl rfl rfl rfl rfl ?_
   refine a0 (.bool r50_1) rfl rfl rfl rfl rfl ?_
   refine a0 (.bool r50_2) rfl rfl rfl rfl rfl ?_
   refine nilt ?_
   refine wp_seq ?_
   refine wp_region_lit ?_
   obtain ⟨c51, h⟩ := ify h
   refine m0 (.bool true) rfl rfl rfl rfl (Eq.trans rfl (vb c51)) ?_
   refine nt_ (c := false) rfl rfl rfl (go0 rfl) rfl rfl ?_
   refine m0 (.bool false) rfl rfl rfl rfl rfl ?_
   refine mv_ (v := .bool r50_1) rfl rfl rfl (go1 (j := 2) (t := 207) rfl (by kernel_rfl) rfl rfl) rfl ?_
   refine mv_ (v := .bool b12) rfl rfl rfl (go1 (j := 2) (t := 207) rfl (by kernel_rfl) rfl rfl) (Eq.trans (S47 12 rfl) h12) ?_
   obtain ⟨c52, h⟩ := ifn h
   refine bb_ (v := .bool (false)) rfl rfl rfl rfl (go1 (j := 2) (t := 207) rfl (by kernel_rfl) rfl rfl) rfl rfl (b_neq laws_FnChangeLeft.u4 c52) ?_
   refine pk_ (b := false) (v := .bool false) rfl rfl rfl rfl rfl (go0 rfl) rfl rfl ?_
   refine nilt ?_
   refine cF ?_ rfl rfl
   refine wp_skip ?_
   refine then_n ?_
   exact laws_FnChangeLeft.w53 k r ws _ _ A1 k1 l1 (Eq.trans (S47 1 rfl) h1) q1 (On.adv C1 (below_step bb47 bb50)) (below_step B0 (below_step bb47 bb50)) h
 refine cF ?_ (Eq.trans x47_195 (vb c49)) rfl
 refine wp_skip ?_
 refine then_n ?_
 exact laws_FnChangeLeft.w53 k r ws _ _ A1 k1 l1 (Eq.trans (S47 1 rfl) h1) q1 (On.adv C1 bb47) (below_step B0 bb47) h
def laws_FnChangeLeft.l39 (k : Nat) : Nat → List Int → List Int → List Int → Int → Bool → Int → List Int → Int → Int → Option Bool
 | 0, _, _, _, _, _, _, _, _, _ => none
 | n + 1, l1, l5, l6, a7, b12, a21, l171, a172, a173 => if (decide (a173 < a172)) = true then (if (decide (0 ≤ a173) && decide (a173 < (l171.length : Int))) = true then (if (decide (0 ≤ a173) && decide (a173 < (l5.length : Int))) = true then (laws_FnChangeLeft.p45 k (laws_FnChangeLeft.l39 k n) l1 l5 l6 a7 b12 (wrap64 (a21 + (wrap64 ((rd l171 a173) * (rd l5 a173))))) l171 a172 a173) else none) else none) else (laws_FnChangeLeft.p46 k l1 l5 l6 a7 b12 a21)
theorem laws_FnChangeLeft.w39 (k : Nat) (r : Bool) (ws : World) : ∀ (n : Nat), ∀ (f0 : Nat → Value) (w0 : World) (A1 : Option Addr) (k1 : Nat) (l1 : List Int) (h1 : f0 1 = .slice A1 l1.length k1) (q1 : l1.length ≤ k1) (C1 : On w0 fun x => Kd.C (Kd.int .u8) x A1 l1.length l1) (A5 : Option Addr) (k5 : Nat) (l5 : List Int) (h5 : f0 5 = .slice A5 l5.length k5) (q5 : l5.length ≤ k5) (C5 : On w0 fun x => Kd.C (Kd.int .i64) x A5 l5.length l5) (A6 : Option Addr) (k6 : Nat) (l6 : List Int) (h6 : f0 6 = .slice A6 l6.length k6) (q6 : l6.length ≤ k6) (C6 : On w0 fun x => Kd.C (Kd.int .i64) x A6 l6.length l6) (a7 : Int) (h7 : f0 7 = .int .i64 a7) (b12 : Bool) (h12 : f0 12 = .bool b12) (a21 : Int) (h21 : f0 21 = .int .i64 a21) (A171 : Option Addr) (k171 : Nat) (l171 : List Int) (h171 : f0 171 = .slice A171 l171.length k171) (q171 : l171.length ≤ k171) (C171 : On w0 fun x => Kd.C (Kd.int .i64) x A171 l171.length l171) (a172 : Int) (h172 : f0 172 = .int .i64 a172) (a173 : Int) (h173 : f0 173 = .int .i64 a173) (B0 : Below ws.heap.size ws w0) (h : laws_FnChangeLeft.l39 k n l1 l5 l6 a7 b12 a21 l171 a172 a173 = some r), AtHead Try.prog (lb (bl (srn 1 (sl (srn 1 (ct (srn 1 (sl (srn 9 laws_FnChangeLeft.B))))))))) (laws_FnChangeLeft.Q7 ws r) (fr 405 f0) w0 := by
 intro n
 induction n with
 | zero => intro f0 w0 A1 k1 l1 h1 q1 C1 A5 k5 l5 h5 q5 C5 A6 k6 l6 h6 q6 C6 a7 h7 b12 h12 a21 h21 A171 k171 l171 h171 q171 C171 a172 h172 a173 h173 B0 h; rw [laws_FnChangeLeft.l39] at h; cases h
 | succ n ih39 =>
  intro f0 w0 A1 k1 l1 h1 q1 C1 A5 k5 l5 h5 q5 C5 A6 k6 l6 h6 q6 C6 a7 h7 b12 h12 a21 h21 A171 k171 l171 h171 q171 C171 a172 h172 a173 h173 B0 h
  rw [laws_FnChangeLeft.l39] at h
  refine head_round ?_
  refine wp_seq ?_
  refine wp_region_lit ?_
  refine bi_ (v := .bool (decide (a173 < a172))) rfl rfl rfl rfl (go0 rfl) h173 h172 (i_lss rfl) ?_
  refine nilt ?_
  refine wp_seq ?_
  rcases ifs h with ⟨c40, h⟩ | ⟨c40, h⟩
  · refine cT ?_ (Eq.trans rfl (vb c40)) rfl
    refine wp_skip ?_
    refine then_n ?_
    refine wp_seq ?_
    refine wp_block ?_
    refine wp_seq ?_
    refine wp_region_lit ?_
    refine m0 (.int .i64 a173) rfl rfl rfl rfl h173 ?_
    obtain ⟨c41, h⟩ := ify h
    replace c41 := bnd c41
    obtain ⟨ad42, ead42, xad42⟩ := at_int_on C171 a173 c41.1 (by have := c41.2; omega)
    refine ix_ (q := a173) laws_FnChangeLeft.u24 laws_FnChangeLeft.z24 rfl rfl rfl rfl (go0 rfl) h171 h173 ead42 c41 ?_
    refine ld_ (v := .int .i64 (rd l171 a173)) rfl rfl rfl (go0 rfl) rfl (load_i laws_FnChangeLeft.u3 (xad42 _ (Below.refl _ _))) ?_
    refine a0 (.int .i64 a173) rfl rfl rfl rfl rfl ?_
    refine a0 (.int .i64 (rd l171 a173)) rfl rfl rfl rfl rfl ?_
    refine nilt ?_
    refine wp_region_lit ?_
    refine m0 (.int .i64 a21) rfl rfl rfl rfl h21 ?_
    refine m0 (.int .i64 (rd l171 a173)) rfl rfl rfl rfl rfl ?_
    refine m0 (.slice A5 l5.length k5) rfl rfl rfl rfl h5 ?_
    refine m0 (.int .i64 a173) rfl rfl rfl rfl rfl ?_
    obtain ⟨c43, h⟩ := ify h
    replace c43 := bnd c43
    obtain ⟨ad44, ead44, xad44⟩ := at_int_on C5 a173 c43.1 (by have := c43.2; omega)
    refine ix_ (q := a173) laws_FnChangeLeft.u24 laws_FnChangeLeft.z24 rfl rfl rfl rfl (go0 rfl) rfl rfl ead44 c43 ?_
    refine ld_ (v := .int .i64 (rd l5 a173)) rfl rfl rfl (go0 rfl) rfl (load_i laws_FnChangeLeft.u3 (xad44 _ (Below.refl _ _))) ?_
    refine bi_ (v := .int .i64 (wrap64 ((rd l171 a173) * (rd l5 a173)))) rfl rfl rfl rfl (go0 rfl) rfl rfl (i_mul rfl) ?_
    refine bi_ (v := .int .i64 (wrap64 (a21 + (wrap64 ((rd l171 a173) * (rd l5 a173)))))) rfl rfl rfl rfl (go0 rfl) rfl rfl (i_add rfl) ?_
    refine a0 (.int .i64 (wrap64 (a21 + (wrap64 ((rd l171 a173) * (rd l5 a173)))))) rfl rfl rfl rfl rfl ?_
    refine wpList_nil ?_
    refine blk_n ?_
    refine then_n ?_
    exact laws_FnChangeLeft.w45 k r ws (laws_FnChangeLeft.l39 k n) ih39 _ _ A1 k1 l1 h1 q1 C1 A5 k5 l5 h5 q5 C5 A6 k6 l6 h6 q6 C6 a7 h7 b12 h12 (wrap64 (a21 + (wrap64 ((rd l171 a173) * (rd l5 a173))))) rfl A171 k171 l171 h171 q171 C171 a172 h172 a173 h173 B0 h
  refine cF ?_ (Eq.trans rfl (vb c40)) rfl
  refine wp_exit ?_
  refine then_x ?_
  refine then_x ?_
  refine blk_x ?_
  refine then_n ?_
  exact laws_FnChangeLeft.w46 k r ws _ _ A1 k1 l1 h1 q1 C1 A5 k5 l5 h5 q5 C5 A6 k6 l6 h6 q6 C6 a7 h7 b12 h12 a21 h21 B0 h
def laws_FnChangeLeft.p37 (k : Nat) (l1 : List Int) (l5 : List Int) (l6 : List Int) (a7 : Int) (b12 : Bool) (b13 : Bool) : Option Bool := if b13 = true then (laws_FnChangeLeft.l39 k k l1 l5 l6 a7 b12 0 l6 (l6.length : Int) 0) else (laws_FnChangeLeft.p53 k l1)
theorem laws_FnChangeLeft.w37 (k : Nat) (r : Bool) (ws : World) (f0 : Nat → Value) (w0 : World) (A1 : Option Addr) (k1 : Nat) (l1 : List Int) (h1 : f0 1 = .slice A1 l1.length k1) (q1 : l1.length ≤ k1) (C1 : On w0 fun x => Kd.C (Kd.int .u8) x A1 l1.length l1) (A5 : Option Addr) (k5 : Nat) (l5 : List Int) (h5 : f0 5 = .slice A5 l5.length k5) (q5 : l5.length ≤ k5) (C5 : On w0 fun x => Kd.C (Kd.int .i64) x A5 l5.length l5) (A6 : Option Addr) (k6 : Nat) (l6 : List Int) (h6 : f0 6 = .slice A6 l6.length k6) (q6 : l6.length ≤ k6) (C6 : On w0 fun x => Kd.C (Kd.int .i64) x A6 l6.length l6) (a7 : Int) (h7 : f0 7 = .int .i64 a7) (b12 : Bool) (h12 : f0 12 = .bool b12) (b13 : Bool) (h13 : f0 13 = .bool b13) (B0 : Below ws.heap.size ws w0) (h : laws_FnChangeLeft.p37 k l1 l5 l6 a7 b12 b13 = some r) : Code.wp Try.prog (srn 9 laws_FnChangeLeft.B) (laws_FnChangeLeft.Q0 ws r) (fr 405 f0) w0 := by
 unfold laws_FnChangeLeft.p37 at h
 refine wp_seq ?_
 refine wp_seq ?_
 refine wp_region_lit ?_
 refine m0 (.bool b13) rfl rfl rfl rfl h13 ?_
 refine nilt ?_
 rcases ifs h with ⟨c38, h⟩ | ⟨c38, h⟩
 · refine cT ?_ (Eq.trans rfl (vb c38)) rfl
   refine wp_seq ?_
   refine wp_region_lit ?_
   refine a0 (.int .i64 0) rfl rfl rfl rfl rfl ?_
   refine nilt ?_
   refine wp_seq ?_
   refine wp_seq ?_
   refine wp_region_lit ?_
   refine m0 (.slice A6 l6.length k6) rfl rfl rfl rfl h6 ?_
   refine ln_ laws_FnChangeLeft.u24 rfl rfl rfl (go0 rfl) rfl ?_
   refine m0 (.int .i64 0) rfl rfl rfl rfl rfl ?_
   refine nilt ?_
   refine wp_block ?_
   exact head_loop (laws_FnChangeLeft.w39 k r ws k _ _ A1 k1 l1 h1 q1 C1 A5 k5 l5 h5 q5 C5 A6 k6 l6 h6 q6 C6 a7 h7 b12 h12 0 rfl A6 k6 l6 rfl q6 C6 (l6.length : Int) rfl 0 rfl B0 h)
 refine cF ?_ (Eq.trans rfl (vb c38)) rfl
 refine wp_skip ?_
 refine then_n ?_
 exact laws_FnChangeLeft.w53 k r ws _ _ A1 k1 l1 h1 q1 C1 B0 h
def laws_FnChangeLeft.p30 (k : Nat) (l1 : List Int) (l5 : List Int) (l6 : List Int) (a7 : Int) (l8 : List Int) (b12 : Bool) (b13 : Bool) (a16 : Int) : Option Bool := (impl_FewestCoins.f k l5 a7).bind fun t31 => if (a16 != a7) = true then none else if ((l8.length : Int) != (l5.length : Int)) = true then none else if t31.2 = true then ((laws_tSum.f k l8).bind fun r35_0 => if (decide (r35_0 < t31.1)) = true then none else laws_FnChangeLeft.p37 k l1 l5 l6 a7 b12 b13) else none
theorem laws_FnChangeLeft.w30 (k : Nat) (r : Bool) (ws : World) (f0 : Nat → Value) (w0 : World) (A1 : Option Addr) (k1 : Nat) (l1 : List Int) (h1 : f0 1 = .slice A1 l1.length k1) (q1 : l1.length ≤ k1) (C1 : On w0 fun x => Kd.C (Kd.int .u8) x A1 l1.length l1) (A5 : Option Addr) (k5 : Nat) (l5 : List Int) (h5 : f0 5 = .slice A5 l5.length k5) (q5 : l5.length ≤ k5) (C5 : On w0 fun x => Kd.C (Kd.int .i64) x A5 l5.length l5) (A6 : Option Addr) (k6 : Nat) (l6 : List Int) (h6 : f0 6 = .slice A6 l6.length k6) (q6 : l6.length ≤ k6) (C6 : On w0 fun x => Kd.C (Kd.int .i64) x A6 l6.length l6) (a7 : Int) (h7 : f0 7 = .int .i64 a7) (A8 : Option Addr) (k8 : Nat) (l8 : List Int) (h8 : f0 8 = .slice A8 l8.length k8) (q8 : l8.length ≤ k8) (C8 : On w0 fun x => Kd.C (Kd.int .i64) x A8 l8.length l8) (b12 : Bool) (h12 : f0 12 = .bool b12) (b13 : Bool) (h13 : f0 13 = .bool b13) (a16 : Int) (h16 : f0 16 = .int .i64 a16) (B0 : Below ws.heap.size ws w0) (h : laws_FnChangeLeft.p30 k l1 l5 l6 a7 l8 b12 b13 a16 = some r) : Code.wp Try.prog (srn 2 (ct (srn 1 (sl (srn 8 laws_FnChangeLeft.B))))) (laws_FnChangeLeft.Q1 ws r) (fr 405 f0) w0 := by
 unfold laws_FnChangeLeft.p30 at h
 refine wp_seq ?_
 refine wp_region_lit ?_
 refine m0 (.slice A5 l5.length k5) rfl rfl rfl rfl h5 ?_
 refine m0 (.int .i64 a7) rfl rfl rfl rfl h7 ?_
 obtain ⟨⟨r31_1, r31_2⟩, e31, h⟩ := bind_ h
 refine cl_ Try.func12 (by kernel_rfl) rfl rfl rfl rfl (go0 rfl) (argc (v := .slice A5 l5.length k5) rfl (argc (v := .int .i64 a7) rfl argn)) ?_
 refine (impl_FewestCoins.calls k A5 k5 l5 a7 _ _ _ (C5 _ (Below.refl _ _)) q5 e31).mono ?_
 rintro e w31 ⟨rfl, bb31⟩
 refine ⟨_, rfl, ?_⟩
 refine m0 (.tuple #[.int .i64 r31_1, .bool r31_2]) rfl rfl rfl rfl rfl ?_
 refine x0 (.int .i64 r31_1) rfl rfl rfl rfl rfl rfl ?_
 refine x0 (.bool r31_2) rfl rfl rfl rfl rfl rfl ?_
 refine a0 (.int .i64 r31_1) rfl rfl rfl rfl rfl ?_
 refine a0 (.bool r31_2) rfl rfl rfl rfl rfl ?_
 refine nilt ?_
 refine wp_seq ?_
 refine wp_region_lit ?_
 refine m0 (.int .i64 a16) rfl rfl rfl rfl h16 ?_
 refine m0 (.int .i64 a7) rfl rfl rfl rfl h7 ?_
 obtain ⟨c32, h⟩ := ifn h
 refine bi_ (v := .bool (false)) rfl rfl rfl rfl (go0 rfl) rfl rfl (i_neq c32) ?_
 refine m0 (.bool false) rfl rfl rfl rfl rfl ?_
 refine mv_ (v := .slice A8 l8.length k8) rfl rfl rfl (go1 (j := 3) (t := 153) rfl (by kernel_rfl) rfl rfl) h8 ?_
 refine ln_ laws_FnChangeLeft.u24 rfl rfl rfl (go1 (j := 3) (t := 153) rfl (by kernel_rfl) rfl rfl) rfl ?_
 refine mv_ (v := .slice A5 l5.length k5) rfl rfl rfl (go1 (j := 3) (t := 153) rfl (by kernel_rfl) rfl rfl) h5 ?_
 refine ln_ laws_FnChangeLeft.u24 rfl rfl rfl (go1 (j := 3) (t := 153) rfl (by kernel_rfl) rfl rfl) rfl ?_
 obtain ⟨c33, h⟩ := ifn h
 refine bi_ (v := .bool (false)) rfl rfl rfl rfl (go1 (j := 3) (t := 153) rfl (by kernel_rfl) rfl rfl) rfl rfl (i_neq c33) ?_
 refine pk_ (b := false) (v := .bool false) rfl rfl rfl rfl rfl (go0 rfl) rfl rfl ?_
 refine m0 (.bool false) rfl rfl rfl rfl rfl ?_
 obtain ⟨c34, h⟩ := ify h
 refine mv_ (v := .bool true) rfl rfl rfl (go1 (j := 10) (t := 160) rfl (by kernel_rfl) rfl rfl) (Eq.trans rfl (vb c34)) ?_
 refine nt_ (c := false) rfl rfl rfl (go1 (j := 10) (t := 160) rfl (by kernel_rfl) rfl rfl) rfl rfl ?_
 refine pk_ (b := false) (v := .bool false) rfl rfl rfl rfl rfl (go0 rfl) rfl rfl ?_
 refine m0 (.bool false) rfl rfl rfl rfl rfl ?_
 refine mv_ (v := .int .i64 r31_1) rfl rfl rfl (go1 (j := 14) (t := 164) rfl (by kernel_rfl) rfl rfl) rfl ?_
 refine mv_ (v := .slice A8 l8.length k8) rfl rfl rfl (go1 (j := 14) (t := 164) rfl (by kernel_rfl) rfl rfl) h8 ?_
 obtain ⟨r35_0, e35, h⟩ := bind_ h
 refine cl_ Try.func13 (by kernel_rfl) rfl rfl rfl rfl (go1 (j := 14) (t := 164) rfl (by kernel_rfl) rfl rfl) (argc (v := .slice A8 l8.length k8) rfl argn) ?_
 refine (laws_tSum.calls k A8 k8 l8 _ _ (C8 _ bb31) q8 e35).mono ?_
 rintro e w35 ⟨rfl, d35⟩
 have bb35 := Drawn0.below d35
 refine ⟨_, rfl, ?_⟩
 obtain ⟨c36, h⟩ := ifn h
 refine bi_ (v := .bool (false)) rfl rfl rfl rfl (go1 (j := 14) (t := 164) rfl (by kernel_rfl) rfl rfl) rfl rfl (i_gtr c36) ?_
 refine pk_ (b := false) (v := .bool false) rfl rfl rfl rfl rfl (go0 rfl) rfl rfl ?_
 refine nilt ?_
 refine cF ?_ rfl rfl
 refine wp_skip ?_
 refine then_n ?_
 exact laws_FnChangeLeft.w37 k r ws _ _ A1 k1 l1 h1 q1 (On.adv C1 (below_step bb31 bb35)) A5 k5 l5 h5 q5 (On.adv C5 (below_step bb31 bb35)) A6 k6 l6 h6 q6 (On.adv C6 (below_step bb31 bb35)) a7 h7 b12 h12 b13 h13 (below_step B0 (below_step bb31 bb35)) h
def laws_FnChangeLeft.l19 (k : Nat) : Nat → List Int → List Int → List Int → Int → List Int → Bool → Bool → Int → List Int → Int → Int → Option Bool
 | 0, _, _, _, _, _, _, _, _, _, _, _ => none
 | n + 1, l1, l5, l6, a7, l8, b12, b13, a16, l118, a119, a120 => if (decide (a120 < a119)) = true then (if (decide (0 ≤ a120) && decide (a120 < (l118.length : Int))) = true then (if (decide ((rd l118 a120) < 0)) = true then none else if (decide (0 ≤ a120) && decide (a120 < (l6.length : Int))) = true then (if (decide ((rd l6 a120) < (rd l118 a120))) = true then none else if (decide (0 ≤ a120) && decide (a120 < (l5.length : Int))) = true then (laws_FnChangeLeft.p29 k (laws_FnChangeLeft.l19 k n) l1 l5 l6 a7 l8 b12 b13 (wrap64 (a16 + (wrap64 ((rd l118 a120) * (rd l5 a120))))) l118 a119 a120) else none) else none) else none) else (laws_FnChangeLeft.p30 k l1 l5 l6 a7 l8 b12 b13 a16)
theorem laws_FnChangeLeft.w19 (k : Nat) (r : Bool) (ws : World) : ∀ (n : Nat), ∀ (f0 : Nat → Value) (w0 : World) (A1 : Option Addr) (k1 : Nat) (l1 : List Int) (h1 : f0 1 = .slice A1 l1.length k1) (q1 : l1.length ≤ k1) (C1 : On w0 fun x => Kd.C (Kd.int .u8) x A1 l1.length l1) (A5 : Option Addr) (k5 : Nat) (l5 : List Int) (h5 : f0 5 = .slice A5 l5.length k5) (q5 : l5.length ≤ k5) (C5 : On w0 fun x => Kd.C (Kd.int .i64) x A5 l5.length l5) (A6 : Option Addr) (k6 : Nat) (l6 : List Int) (h6 : f0 6 = .slice A6 l6.length k6) (q6 : l6.length ≤ k6) (C6 : On w0 fun x => Kd.C (Kd.int .i64) x A6 l6.length l6) (a7 : Int) (h7 : f0 7 = .int .i64 a7) (A8 : Option Addr) (k8 : Nat) (l8 : List Int) (h8 : f0 8 = .slice A8 l8.length k8) (q8 : l8.length ≤ k8) (C8 : On w0 fun x => Kd.C (Kd.int .i64) x A8 l8.length l8) (b12 : Bool) (h12 : f0 12 = .bool b12) (b13 : Bool) (h13 : f0 13 = .bool b13) (a16 : Int) (h16 : f0 16 = .int .i64 a16) (A118 : Option Addr) (k118 : Nat) (l118 : List Int) (h118 : f0 118 = .slice A118 l118.length k118) (q118 : l118.length ≤ k118) (C118 : On w0 fun x => Kd.C (Kd.int .i64) x A118 l118.length l118) (a119 : Int) (h119 : f0 119 = .int .i64 a119) (a120 : Int) (h120 : f0 120 = .int .i64 a120) (B0 : Below ws.heap.size ws w0) (h : laws_FnChangeLeft.l19 k n l1 l5 l6 a7 l8 b12 b13 a16 l118 a119 a120 = some r), AtHead Try.prog (lb (bl (srn 1 (sl (srn 1 (ct (srn 1 (sl (srn 8 laws_FnChangeLeft.B))))))))) (laws_FnChangeLeft.Q3 ws r) (fr 405 f0) w0 := by
 intro n
 induction n with
 | zero => intro f0 w0 A1 k1 l1 h1 q1 C1 A5 k5 l5 h5 q5 C5 A6 k6 l6 h6 q6 C6 a7 h7 A8 k8 l8 h8 q8 C8 b12 h12 b13 h13 a16 h16 A118 k118 l118 h118 q118 C118 a119 h119 a120 h120 B0 h; rw [laws_FnChangeLeft.l19] at h; cases h
 | succ n ih19 =>
  intro f0 w0 A1 k1 l1 h1 q1 C1 A5 k5 l5 h5 q5 C5 A6 k6 l6 h6 q6 C6 a7 h7 A8 k8 l8 h8 q8 C8 b12 h12 b13 h13 a16 h16 A118 k118 l118 h118 q118 C118 a119 h119 a120 h120 B0 h
  rw [laws_FnChangeLeft.l19] at h
  refine head_round ?_
  refine wp_seq ?_
  refine wp_region_lit ?_
  refine bi_ (v := .bool (decide (a120 < a119))) rfl rfl rfl rfl (go0 rfl) h120 h119 (i_lss rfl) ?_
  refine nilt ?_
  refine wp_seq ?_
  rcases ifs h with ⟨c20, h⟩ | ⟨c20, h⟩
  · refine cT ?_ (Eq.trans rfl (vb c20)) rfl
    refine wp_skip ?_
    refine then_n ?_
    refine wp_seq ?_
    refine wp_block ?_
    refine wp_seq ?_
    refine wp_region_lit ?_
    refine m0 (.int .i64 a120) rfl rfl rfl rfl h120 ?_
    obtain ⟨c21, h⟩ := ify h
    replace c21 := bnd c21
    obtain ⟨ad22, ead22, xad22⟩ := at_int_on C118 a120 c21.1 (by have := c21.2; omega)
    refine ix_ (q := a120) laws_FnChangeLeft.u24 laws_FnChangeLeft.z24 rfl rfl rfl rfl (go0 rfl) h118 h120 ead22 c21 ?_
    refine ld_ (v := .int .i64 (rd l118 a120)) rfl rfl rfl (go0 rfl) rfl (load_i laws_FnChangeLeft.u3 (xad22 _ (Below.refl _ _))) ?_
    refine a0 (.int .i64 a120) rfl rfl rfl rfl rfl ?_
    refine a0 (.int .i64 (rd l118 a120)) rfl rfl rfl rfl rfl ?_
    refine nilt ?_
    refine wp_seq ?_
    refine wp_seq ?_
    refine wp_region_lit ?_
    refine m0 (.int .i64 (rd l118 a120)) rfl rfl rfl rfl rfl ?_
    obtain ⟨c23, h⟩ := ifn h
    refine bi_ (v := .bool (false)) rfl rfl rfl rfl (go0 rfl) rfl rfl (i_lss c23) ?_
    refine m0 (.bool false) rfl rfl rfl rfl rfl ?_
    refine mv_ (v := .int .i64 (rd l118 a120)) rfl rfl rfl (go1 (j := 2) (t := 127) rfl (by kernel_rfl) rfl rfl) rfl ?_
    refine mv_ (v := .slice A6 l6.length k6) rfl rfl rfl (go1 (j := 2) (t := 127) rfl (by kernel_rfl) rfl rfl) h6 ?_
    refine mv_ (v := .int .i64 a120) rfl rfl rfl (go1 (j := 2) (t := 127) rfl (by kernel_rfl) rfl rfl) rfl ?_
    obtain ⟨c24, h⟩ := ify h
    replace c24 := bnd c24
    obtain ⟨ad25, ead25, xad25⟩ := at_int_on C6 a120 c24.1 (by have := c24.2; omega)
    refine ix_ (q := a120) laws_FnChangeLeft.u24 laws_FnChangeLeft.z24 rfl rfl rfl rfl (go1 (j := 2) (t := 127) rfl (by kernel_rfl) rfl rfl) rfl rfl ead25 c24 ?_
    refine ld_ (v := .int .i64 (rd l6 a120)) rfl rfl rfl (go1 (j := 2) (t := 127) rfl (by kernel_rfl) rfl rfl) rfl (load_i laws_FnChangeLeft.u3 (xad25 _ (Below.refl _ _))) ?_
    obtain ⟨c26, h⟩ := ifn h
    refine bi_ (v := .bool (false)) rfl rfl rfl rfl (go1 (j := 2) (t := 127) rfl (by kernel_rfl) rfl rfl) rfl rfl (i_gtr c26) ?_
    refine pk_ (b := false) (v := .bool false) rfl rfl rfl rfl rfl (go0 rfl) rfl rfl ?_
    refine nilt ?_
    refine cF ?_ rfl rfl
    refine wp_skip ?_
    refine then_n ?_
    refine wp_region_lit ?_
    refine m0 (.int .i64 a16) rfl rfl rfl rfl h16 ?_
    refine m0 (.int .i64 (rd l118 a120)) rfl rfl rfl rfl rfl ?_
    refine m0 (.slice A5 l5.length k5) rfl rfl rfl rfl h5 ?_
    refine m0 (.int .i64 a120) rfl rfl rfl rfl rfl ?_
    obtain ⟨c27, h⟩ := ify h
    replace c27 := bnd c27
    obtain ⟨ad28, ead28, xad28⟩ := at_int_on C5 a120 c27.1 (by have := c27.2; omega)
    refine ix_ (q := a120) laws_FnChangeLeft.u24 laws_FnChangeLeft.z24 rfl rfl rfl rfl (go0 rfl) rfl rfl ead28 c27 ?_
    refine ld_ (v := .int .i64 (rd l5 a120)) rfl rfl rfl (go0 rfl) rfl (load_i laws_FnChangeLeft.u3 (xad28 _ (Below.refl _ _))) ?_
    refine bi_ (v := .int .i64 (wrap64 ((rd l118 a120) * (rd l5 a120)))) rfl rfl rfl rfl (go0 rfl) rfl rfl (i_mul rfl) ?_
    refine bi_ (v := .int .i64 (wrap64 (a16 + (wrap64 ((rd l118 a120) * (rd l5 a120)))))) rfl rfl rfl rfl (go0 rfl) rfl rfl (i_add rfl) ?_
    refine a0 (.int .i64 (wrap64 (a16 + (wrap64 ((rd l118 a120) * (rd l5 a120)))))) rfl rfl rfl rfl rfl ?_
    refine wpList_nil ?_
    refine blk_n ?_
    refine then_n ?_
    exact laws_FnChangeLeft.w29 k r ws (laws_FnChangeLeft.l19 k n) ih19 _ _ A1 k1 l1 h1 q1 C1 A5 k5 l5 h5 q5 C5 A6 k6 l6 h6 q6 C6 a7 h7 A8 k8 l8 h8 q8 C8 b12 h12 b13 h13 (wrap64 (a16 + (wrap64 ((rd l118 a120) * (rd l5 a120))))) rfl A118 k118 l118 h118 q118 C118 a119 h119 a120 h120 B0 h
  refine cF ?_ (Eq.trans rfl (vb c20)) rfl
  refine wp_exit ?_
  refine then_x ?_
  refine then_x ?_
  refine blk_x ?_
  refine then_n ?_
  exact laws_FnChangeLeft.w30 k r ws _ _ A1 k1 l1 h1 q1 C1 A5 k5 l5 h5 q5 C5 A6 k6 l6 h6 q6 C6 a7 h7 A8 k8 l8 h8 q8 C8 b12 h12 b13 h13 a16 h16 B0 h
def laws_FnChangeLeft.p9 (k : Nat) (l1 : List Int) (l5 : List Int) (l6 : List Int) (a7 : Int) (l8 : List Int) (b9 : Bool) (l10 : List Int) (b11 : Bool) (b12 : Bool) (b13 : Bool) (b14 : Bool) (b15 : Bool) : Option Bool := if (b9 != b11) = true then none else (laws_tSame.f k l8 l10).bind fun r11_0 => if (!r11_0) = true then none else if (b13 != b15) = true then none else if (b12 != b14) = true then none else (if b13 = true then (some b12) else (some false)).bind fun d15 => if (b9 != d15) = true then none else if b9 = true then (laws_FnChangeLeft.l19 k k l1 l5 l6 a7 l8 b12 b13 0 l8 (l8.length : Int) 0) else (laws_FnChangeLeft.p37 k l1 l5 l6 a7 b12 b13)
theorem laws_FnChangeLeft.w9 (k : Nat) (r : Bool) (ws : World) (f0 : Nat → Value) (w0 : World) (A1 : Option Addr) (k1 : Nat) (l1 : List Int) (h1 : f0 1 = .slice A1 l1.length k1) (q1 : l1.length ≤ k1) (C1 : On w0 fun x => Kd.C (Kd.int .u8) x A1 l1.length l1) (A5 : Option Addr) (k5 : Nat) (l5 : List Int) (h5 : f0 5 = .slice A5 l5.length k5) (q5 : l5.length ≤ k5) (C5 : On w0 fun x => Kd.C (Kd.int .i64) x A5 l5.length l5) (A6 : Option Addr) (k6 : Nat) (l6 : List Int) (h6 : f0 6 = .slice A6 l6.length k6) (q6 : l6.length ≤ k6) (C6 : On w0 fun x => Kd.C (Kd.int .i64) x A6 l6.length l6) (a7 : Int) (h7 : f0 7 = .int .i64 a7) (A8 : Option Addr) (k8 : Nat) (l8 : List Int) (h8 : f0 8 = .slice A8 l8.length k8) (q8 : l8.length ≤ k8) (C8 : On w0 fun x => Kd.C (Kd.int .i64) x A8 l8.length l8) (b9 : Bool) (h9 : f0 9 = .bool b9) (A10 : Option Addr) (k10 : Nat) (l10 : List Int) (h10 : f0 10 = .slice A10 l10.length k10) (q10 : l10.length ≤ k10) (C10 : On w0 fun x => Kd.C (Kd.int .i64) x A10 l10.length l10) (b11 : Bool) (h11 : f0 11 = .bool b11) (b12 : Bool) (h12 : f0 12 = .bool b12) (b13 : Bool) (h13 : f0 13 = .bool b13) (b14 : Bool) (h14 : f0 14 = .bool b14) (b15 : Bool) (h15 : f0 15 = .bool b15) (B0 : Below ws.heap.size ws w0) (h : laws_FnChangeLeft.p9 k l1 l5 l6 a7 l8 b9 l10 b11 b12 b13 b14 b15 = some r) : Code.wp Try.prog (srn 7 laws_FnChangeLeft.B) (laws_FnChangeLeft.Q0 ws r) (fr 405 f0) w0 := by
 unfold laws_FnChangeLeft.p9 at h
 refine wp_seq ?_
 refine wp_seq ?_
 refine wp_region_lit ?_
 refine m0 (.bool b9) rfl rfl rfl rfl h9 ?_
 refine m0 (.bool b11) rfl rfl rfl rfl h11 ?_
 obtain ⟨c10, h⟩ := ifn h
 refine bb_ (v := .bool (false)) rfl rfl rfl rfl (go0 rfl) rfl rfl (b_neq laws_FnChangeLeft.u4 c10) ?_
 refine m0 (.bool false) rfl rfl rfl rfl rfl ?_
 refine mv_ (v := .slice A8 l8.length k8) rfl rfl rfl (go1 (j := 3) (t := 93) rfl (by kernel_rfl) rfl rfl) h8 ?_
 refine mv_ (v := .slice A10 l10.length k10) rfl rfl rfl (go1 (j := 3) (t := 93) rfl (by kernel_rfl) rfl rfl) h10 ?_
 obtain ⟨r11_0, e11, h⟩ := bind_ h
 refine cl_ Try.func11 (by kernel_rfl) rfl rfl rfl rfl (go1 (j := 3) (t := 93) rfl (by kernel_rfl) rfl rfl) (argc (v := .slice A8 l8.length k8) rfl (argc (v := .slice A10 l10.length k10) rfl argn)) ?_
 refine (laws_tSame.calls k A8 k8 l8 A10 k10 l10 _ _ (C8 _ (Below.refl _ _)) q8 (C10 _ (Below.refl _ _)) q10 e11).mono ?_
 rintro e w11 ⟨rfl, d11⟩
 have bb11 := Drawn0.below d11
 refine ⟨_, rfl, ?_⟩
 obtain ⟨c12, h⟩ := ifn h
 refine nt_ (c := false) rfl rfl rfl (go1 (j := 3) (t := 93) rfl (by kernel_rfl) rfl rfl) rfl c12 ?_
 refine pk_ (b := false) (v := .bool false) rfl rfl rfl rfl rfl (go0 rfl) rfl rfl ?_
 refine m0 (.bool false) rfl rfl rfl rfl rfl ?_
 refine mv_ (v := .bool b13) rfl rfl rfl (go1 (j := 9) (t := 99) rfl (by kernel_rfl) rfl rfl) h13 ?_
 refine mv_ (v := .bool b15) rfl rfl rfl (go1 (j := 9) (t := 99) rfl (by kernel_rfl) rfl rfl) h15 ?_
 obtain ⟨c13, h⟩ := ifn h
 refine bb_ (v := .bool (false)) rfl rfl rfl rfl (go1 (j := 9) (t := 99) rfl (by kernel_rfl) rfl rfl) rfl rfl (b_neq laws_FnChangeLeft.u4 c13) ?_
 refine pk_ (b := false) (v := .bool false) rfl rfl rfl rfl rfl (go0 rfl) rfl rfl ?_
 refine m0 (.bool false) rfl rfl rfl rfl rfl ?_
 refine mv_ (v := .bool b12) rfl rfl rfl (go1 (j := 14) (t := 104) rfl (by kernel_rfl) rfl rfl) h12 ?_
 refine mv_ (v := .bool b14) rfl rfl rfl (go1 (j := 14) (t := 104) rfl (by kernel_rfl) rfl rfl) h14 ?_
 obtain ⟨c14, h⟩ := ifn h
 refine bb_ (v := .bool (false)) rfl rfl rfl rfl (go1 (j := 14) (t := 104) rfl (by kernel_rfl) rfl rfl) rfl rfl (b_neq laws_FnChangeLeft.u4 c14) ?_
 refine pk_ (b := false) (v := .bool false) rfl rfl rfl rfl rfl (go0 rfl) rfl rfl ?_
 refine m0 (.bool false) rfl rfl rfl rfl rfl ?_
 refine mv_ (v := .bool b9) rfl rfl rfl (go1 (j := 19) (t := 109) rfl (by kernel_rfl) rfl rfl) h9 ?_
 refine mv_ (v := .bool b13) rfl rfl rfl (go1 (j := 19) (t := 109) rfl (by kernel_rfl) rfl rfl) h13 ?_
 refine mv_ (v := .bool b13) rfl rfl rfl (go1 (j := 19) (t := 109) rfl (by kernel_rfl) rfl rfl) rfl ?_
 obtain ⟨d15, e15, h⟩ := bind_ h
 refine cut_ 2 (fun f g w' => Same 53 f g ∧ g 114 = .bool d15 ∧ g 109 = .bool false ∧ g 110 = .bool b9 ∧ Below w11.heap.size w11 w') ?_ ?_
 · clear h; have h := e15; clear e15
   rcases ifs h with ⟨c16, h⟩ | ⟨c16, h⟩
   · refine mv_ (v := .bool b12) rfl rfl rfl (go1 (j := 22) (t := 112) rfl (by kernel_rfl) rfl (Eq.trans rfl (vb c16))) h12 ?_
     refine pk_ (b := true) (v := .bool b12) rfl rfl rfl rfl rfl (go1 (j := 19) (t := 109) rfl (by kernel_rfl) rfl rfl) (Eq.trans rfl (vb c16)) rfl ?_
     refine wpList_nil ?_
     exact then_n ⟨_, rfl, (Same.put (Same.put (Same.refl _ _) rfl) rfl), (Eq.trans rfl (vb (Option.some.inj h))), rfl, rfl, (Below.refl _ _)⟩
   refine skp (no1 (j := 22) (t := 112) rfl (by kernel_rfl) rfl (Eq.trans rfl (vb c16)) rfl) rfl ?_
   refine pk_ (b := false) (v := .bool false) rfl rfl rfl rfl rfl (go1 (j := 19) (t := 109) rfl (by kernel_rfl) rfl rfl) (Eq.trans rfl (vb c16)) rfl ?_
   refine wpList_nil ?_
   exact then_n ⟨_, rfl, (Same.put (Same.put (Same.refl _ _) rfl) rfl), (Eq.trans rfl (vb (Option.some.inj h))), rfl, rfl, (Below.refl _ _)⟩
 clear e15; rintro g15 w15 ⟨S15, x15_114, x15_109, x15_110, bb15⟩
 obtain ⟨c17, h⟩ := ifn h
 refine bb_ (v := .bool (false)) rfl rfl rfl rfl (go1 (j := 19) (t := 109) rfl (by kernel_rfl) rfl x15_109) x15_110 x15_114 (b_neq laws_FnChangeLeft.u4 c17) ?_
 refine pk_ (b := false) (v := .bool false) rfl rfl rfl rfl rfl (go0 rfl) x15_109 rfl ?_
 refine nilt ?_
 refine cF ?_ rfl rfl
 refine wp_skip ?_
 refine then_n ?_
 refine wp_seq ?_
 refine wp_seq ?_
 refine wp_region_lit ?_
 refine m0 (.bool b9) rfl rfl rfl rfl (Eq.trans (S15 9 rfl) h9) ?_
 refine nilt ?_
 rcases ifs h with ⟨c18, h⟩ | ⟨c18, h⟩
 · refine cT ?_ (Eq.trans rfl (vb c18)) rfl
   refine wp_seq ?_
   refine wp_region_lit ?_
   refine a0 (.int .i64 0) rfl rfl rfl rfl rfl ?_
   refine nilt ?_
   refine wp_seq ?_
   refine wp_seq ?_
   refine wp_region_lit ?_
   refine m0 (.slice A8 l8.length k8) rfl rfl rfl rfl (Eq.trans (S15 8 rfl) h8) ?_
   refine ln_ laws_FnChangeLeft.u24 rfl rfl rfl (go0 rfl) rfl ?_
   refine m0 (.int .i64 0) rfl rfl rfl rfl rfl ?_
   refine nilt ?_
   refine wp_block ?_
   exact head_loop (laws_FnChangeLeft.w19 k r ws k _ _ A1 k1 l1 (Eq.trans (S15 1 rfl) h1) q1 (On.adv C1 (below_step bb11 bb15)) A5 k5 l5 (Eq.trans (S15 5 rfl) h5) q5 (On.adv C5 (below_step bb11 bb15)) A6 k6 l6 (Eq.trans (S15 6 rfl) h6) q6 (On.adv C6 (below_step bb11 bb15)) a7 (Eq.trans (S15 7 rfl) h7) A8 k8 l8 (Eq.trans (S15 8 rfl) h8) q8 (On.adv C8 (below_step bb11 bb15)) b12 (Eq.trans (S15 12 rfl) h12) b13 (Eq.trans (S15 13 rfl) h13) 0 rfl A8 k8 l8 rfl q8 (On.adv C8 (below_step bb11 bb15)) (l8.length : Int) rfl 0 rfl (below_step B0 (below_step bb11 bb15)) h)
 refine cF ?_ (Eq.trans rfl (vb c18)) rfl
 refine wp_skip ?_
 refine then_n ?_
 exact laws_FnChangeLeft.w37 k r ws _ _ A1 k1 l1 (Eq.trans (S15 1 rfl) h1) q1 (On.adv C1 (below_step bb11 bb15)) A5 k5 l5 (Eq.trans (S15 5 rfl) h5) q5 (On.adv C5 (below_step bb11 bb15)) A6 k6 l6 (Eq.trans (S15 6 rfl) h6) q6 (On.adv C6 (below_step bb11 bb15)) a7 (Eq.trans (S15 7 rfl) h7) b12 (Eq.trans (S15 12 rfl) h12) b13 (Eq.trans (S15 13 rfl) h13) (below_step B0 (below_step bb11 bb15)) h
def laws_FnChangeLeft.p1 (k : Nat) (l0 : List Int) (l1 : List Int) : Option Bool := (laws_big.f l0 l1).bind fun r2_0 => if r2_0 = true then (some true) else ((spec_DrawChangeFrom.f k l0).bind fun t4 => (impl_ChangeFrom.f k t4.1 t4.2.1 t4.2.2).bind fun t5 => (spec_ChangeFrom.f k t4.1 t4.2.1 t4.2.2).bind fun t6 => (impl_CanChange.f k t4.1 t4.2.1 t4.2.2).bind fun t7 => (spec_CanChange.f k t4.1 t4.2.1 t4.2.2).bind fun t8 => laws_FnChangeLeft.p9 k l1 t4.1 t4.2.1 t4.2.2 t5.1 t5.2 t6.1 t6.2 t7.1 t7.2 t8.1 t8.2)
theorem laws_FnChangeLeft.w1 (k : Nat) (r : Bool) (ws : World) (f0 : Nat → Value) (w0 : World) (A0 : Option Addr) (k0 : Nat) (l0 : List Int) (h0 : f0 0 = .slice A0 l0.length k0) (q0 : l0.length ≤ k0) (C0 : On w0 fun x => Kd.C (Kd.int .u8) x A0 l0.length l0) (A1 : Option Addr) (k1 : Nat) (l1 : List Int) (h1 : f0 1 = .slice A1 l1.length k1) (q1 : l1.length ≤ k1) (C1 : On w0 fun x => Kd.C (Kd.int .u8) x A1 l1.length l1) (B0 : Below ws.heap.size ws w0) (h : laws_FnChangeLeft.p1 k l0 l1 = some r) : Code.wp Try.prog laws_FnChangeLeft.B (laws_FnChangeLeft.Q0 ws r) (fr 405 f0) w0 := by
 unfold laws_FnChangeLeft.p1 at h
 refine wp_seq ?_
 refine wp_region_lit ?_
 refine a0 (.bool false) rfl rfl rfl rfl rfl ?_
 refine nilt ?_
 refine wp_seq ?_
 refine wp_seq ?_
 refine wp_region_lit ?_
 refine m0 (.slice A0 l0.length k0) rfl rfl rfl rfl h0 ?_
 refine m0 (.slice A1 l1.length k1) rfl rfl rfl rfl h1 ?_
 obtain ⟨r2_0, e2, h⟩ := bind_ h
 refine cl_ Try.func5 (by kernel_rfl) rfl rfl rfl rfl (go0 rfl) (argc (v := .slice A0 l0.length k0) rfl (argc (v := .slice A1 l1.length k1) rfl argn)) ?_
 refine (laws_big.calls A0 k0 l0 A1 k1 l1 _ _ (C0 _ (Below.refl _ _)) q0 (C1 _ (Below.refl _ _)) q1 e2).mono ?_
 rintro e w2 ⟨rfl, d2⟩
 have bb2 := Drawn0.below d2
 refine ⟨_, rfl, ?_⟩
 refine nilt ?_
 rcases ifs h with ⟨c3, h⟩ | ⟨c3, h⟩
 · refine cT ?_ (Eq.trans rfl (vb c3)) rfl
   refine wp_seq ?_
   refine wp_region_lit ?_
   refine a0 (.bool true) rfl rfl rfl rfl rfl ?_
   refine nilt ?_
   refine wp_ret ?_
   refine then_r ?_
   exact leave rfl rfl rfl ⟨rb (Option.some.inj h), (below_step B0 bb2)⟩
 refine cF ?_ (Eq.trans rfl (vb c3)) rfl
 refine wp_skip ?_
 refine then_n ?_
 refine wp_seq ?_
 refine wp_region_lit ?_
 refine m0 (.slice A0 l0.length k0) rfl rfl rfl rfl h0 ?_
 obtain ⟨⟨r4_1, r4_2, r4_3⟩, e4, h⟩ := bind_ h
 refine cl_ Try.func6 (by kernel_rfl) rfl rfl rfl rfl (go0 rfl) (argc (v := .slice A0 l0.length k0) rfl argn) ?_
 refine (spec_DrawChangeFrom.calls k A0 k0 l0 _ _ _ _ (C0 _ bb2) q0 e4).mono ?_
 rintro e w4 ⟨u4_0, u4_1, rfl, ou4_0, ou4_1, bb4⟩
 obtain ⟨Au4_0, ku4_0, xu4_0, qu4_0, Cu4_0⟩ := V3 ou4_0; subst xu4_0
 obtain ⟨Au4_1, ku4_1, xu4_1, qu4_1, Cu4_1⟩ := R3 ou4_1; subst xu4_1
 refine ⟨_, rfl, ?_⟩
 refine m0 (.tuple #[.slice Au4_0 r4_1.length ku4_0, .slice Au4_1 r4_2.length ku4_1, .int .i64 r4_3]) rfl rfl rfl rfl rfl ?_
 refine x0 (.slice Au4_0 r4_1.length ku4_0) rfl rfl rfl rfl rfl rfl ?_
 refine x0 (.slice Au4_1 r4_2.length ku4_1) rfl rfl rfl rfl rfl rfl ?_
 refine x0 (.int .i64 r4_3) rfl rfl rfl rfl rfl rfl ?_
 refine a0 (.slice Au4_0 r4_1.length ku4_0) rfl rfl rfl rfl rfl ?_
 refine a0 (.slice Au4_1 r4_2.length ku4_1) rfl rfl rfl rfl rfl ?_
 refine a0 (.int .i64 r4_3) rfl rfl rfl rfl rfl ?_
 refine nilt ?_
 refine wp_seq ?_
 refine wp_region_lit ?_
 refine m0 (.slice Au4_0 r4_1.length ku4_0) rfl rfl rfl rfl rfl ?_
 refine m0 (.slice Au4_1 r4_2.length ku4_1) rfl rfl rfl rfl rfl ?_
 refine m0 (.int .i64 r4_3) rfl rfl rfl rfl rfl ?_
 obtain ⟨⟨r5_1, r5_2⟩, e5, h⟩ := bind_ h
 refine cl_ Try.func7 (by kernel_rfl) rfl rfl rfl rfl (go0 rfl) (argc (v := .slice Au4_0 r4_1.length ku4_0) rfl (argc (v := .slice Au4_1 r4_2.length ku4_1) rfl (argc (v := .int .i64 r4_3) rfl argn))) ?_
 refine (impl_ChangeFrom.calls k Au4_0 ku4_0 r4_1 Au4_1 ku4_1 r4_2 r4_3 _ _ _ (Cu4_0 _ (Below.refl _ _)) qu4_0 (Cu4_1 _ (Below.refl _ _)) qu4_1 e5).mono ?_
 rintro e w5 ⟨u5_0, rfl, ou5_0, bb5⟩
 obtain ⟨Au5_0, ku5_0, xu5_0, qu5_0, Cu5_0⟩ := R3 ou5_0; subst xu5_0
 refine ⟨_, rfl, ?_⟩
 refine m0 (.tuple #[.slice Au5_0 r5_1.length ku5_0, .bool r5_2]) rfl rfl rfl rfl rfl ?_
 refine x0 (.slice Au5_0 r5_1.length ku5_0) rfl rfl rfl rfl rfl rfl ?_
 refine x0 (.bool r5_2) rfl rfl rfl rfl rfl rfl ?_
 refine a0 (.slice Au5_0 r5_1.length ku5_0) rfl rfl rfl rfl rfl ?_
 refine a0 (.bool r5_2) rfl rfl rfl rfl rfl ?_
 refine nilt ?_
 refine wp_seq ?_
 refine wp_region_lit ?_
 refine m0 (.slice Au4_0 r4_1.length ku4_0) rfl rfl rfl rfl rfl ?_
 refine m0 (.slice Au4_1 r4_2.length ku4_1) rfl rfl rfl rfl rfl ?_
 refine m0 (.int .i64 r4_3) rfl rfl rfl rfl rfl ?_
 obtain ⟨⟨r6_1, r6_2⟩, e6, h⟩ := bind_ h
 refine cl_ Try.func8 (by kernel_rfl) rfl rfl rfl rfl (go0 rfl) (argc (v := .slice Au4_0 r4_1.length ku4_0) rfl (argc (v := .slice Au4_1 r4_2.length ku4_1) rfl (argc (v := .int .i64 r4_3) rfl argn))) ?_
 refine (spec_ChangeFrom.calls k Au4_0 ku4_0 r4_1 Au4_1 ku4_1 r4_2 r4_3 _ _ _ (Cu4_0 _ bb5) qu4_0 (Cu4_1 _ bb5) qu4_1 e6).mono ?_
 rintro e w6 ⟨u6_0, rfl, ou6_0, bb6⟩
 obtain ⟨Au6_0, ku6_0, xu6_0, qu6_0, Cu6_0⟩ := R3 ou6_0; subst xu6_0
 refine ⟨_, rfl, ?_⟩
 refine m0 (.tuple #[.slice Au6_0 r6_1.length ku6_0, .bool r6_2]) rfl rfl rfl rfl rfl ?_
 refine x0 (.slice Au6_0 r6_1.length ku6_0) rfl rfl rfl rfl rfl rfl ?_
 refine x0 (.bool r6_2) rfl rfl rfl rfl rfl rfl ?_
 refine a0 (.slice Au6_0 r6_1.length ku6_0) rfl rfl rfl rfl rfl ?_
 refine a0 (.bool r6_2) rfl rfl rfl rfl rfl ?_
 refine nilt ?_
 refine wp_seq ?_
 refine wp_region_lit ?_
 refine m0 (.slice Au4_0 r4_1.length ku4_0) rfl rfl rfl rfl rfl ?_
 refine m0 (.slice Au4_1 r4_2.length ku4_1) rfl rfl rfl rfl rfl ?_
 refine m0 (.int .i64 r4_3) rfl rfl rfl rfl rfl ?_
 obtain ⟨⟨r7_1, r7_2⟩, e7, h⟩ := bind_ h
 refine cl_ Try.func9 (by kernel_rfl) rfl rfl rfl rfl (go0 rfl) (argc (v := .slice Au4_0 r4_1.length ku4_0) rfl (argc (v := .slice Au4_1 r4_2.length ku4_1) rfl (argc (v := .int .i64 r4_3) rfl argn))) ?_
 refine (impl_CanChange.calls k Au4_0 ku4_0 r4_1 Au4_1 ku4_1 r4_2 r4_3 _ _ _ (Cu4_0 _ (below_step bb5 bb6)) qu4_0 (Cu4_1 _ (below_step bb5 bb6)) qu4_1 e7).mono ?_
 rintro e w7 ⟨rfl, bb7⟩
 refine ⟨_, rfl, ?_⟩
 refine m0 (.tuple #[.bool r7_1, .bool r7_2]) rfl rfl rfl rfl rfl ?_
 refine x0 (.bool r7_1) rfl rfl rfl rfl rfl rfl ?_
 refine x0 (.bool r7_2) rfl rfl rfl rfl rfl rfl ?_
 refine a0 (.bool r7_1) rfl rfl rfl rfl rfl ?_
 refine a0 (.bool r7_2) rfl rfl rfl rfl rfl ?_
 refine nilt ?_
 refine wp_seq ?_
 refine wp_region_lit ?_
 refine m0 (.slice Au4_0 r4_1.length ku4_0) rfl rfl rfl rfl rfl ?_
 refine m0 (.slice Au4_1 r4_2.length ku4_1) rfl rfl rfl rfl rfl ?_
 refine m0 (.int .i64 r4_3) rfl rfl rfl rfl rfl ?_
 obtain ⟨⟨r8_1, r8_2⟩, e8, h⟩ := bind_ h
 refine cl_ Try.func10 (by kernel_rfl) rfl rfl rfl rfl (go0 rfl) (argc (v := .slice Au4_0 r4_1.length ku4_0) rfl (argc (v := .slice Au4_1 r4_2.length ku4_1) rfl (argc (v := .int .i64 r4_3) rfl argn))) ?_
 refine (spec_CanChange.calls k Au4_0 ku4_0 r4_1 Au4_1 ku4_1 r4_2 r4_3 _ _ _ (Cu4_0 _ (below_step (below_step bb5 bb6) bb7)) qu4_0 (Cu4_1 _ (below_step (below_step bb5 bb6) bb7)) qu4_1 e8).mono ?_
 rintro e w8 ⟨rfl, bb8⟩
 refine ⟨_, rfl, ?_⟩
 refine m0 (.tuple #[.bool r8_1, .bool r8_2]) rfl rfl rfl rfl rfl ?_
 refine x0 (.bool r8_1) rfl rfl rfl rfl rfl rfl ?_
 refine x0 (.bool r8_2) rfl rfl rfl rfl rfl rfl ?_
 refine a0 (.bool r8_1) rfl rfl rfl rfl rfl ?_
 refine a0 (.bool r8_2) rfl rfl rfl rfl rfl ?_
 refine nilt ?_
 exact laws_FnChangeLeft.w9 k r ws _ _ A1 k1 l1 h1 q1 (On.adv C1 (below_step (below_step (below_step (below_step (below_step bb2 bb4) bb5) bb6) bb7) bb8)) Au4_0 ku4_0 r4_1 rfl qu4_0 (On.adv Cu4_0 (below_step (below_step (below_step bb5 bb6) bb7) bb8)) Au4_1 ku4_1 r4_2 rfl qu4_1 (On.adv Cu4_1 (below_step (below_step (below_step bb5 bb6) bb7) bb8)) r4_3 rfl Au5_0 ku5_0 r5_1 rfl qu5_0 (On.adv Cu5_0 (below_step (below_step bb6 bb7) bb8)) r5_2 rfl Au6_0 ku6_0 r6_1 rfl qu6_0 (On.adv Cu6_0 (below_step bb7 bb8)) r6_2 rfl r7_1 rfl r7_2 rfl r8_1 rfl r8_2 rfl (below_step B0 (below_step (below_step (below_step (below_step (below_step bb2 bb4) bb5) bb6) bb7) bb8)) h
def laws_FnChangeLeft.f (k : Nat) (l0 : List Int) (l1 : List Int) : Option Bool := laws_FnChangeLeft.p1 k l0 l1
theorem laws_FnChangeLeft.calls (k : Nat) (A0 : Option Addr) (c0 : Nat) (l0 : List Int) (A1 : Option Addr) (c1 : Nat) (l1 : List Int) (r : Bool) (w : World) (hr0 : Kd.C (Kd.int .u8) w A0 l0.length l0) (hc0 : l0.length ≤ c0) (hr1 : Kd.C (Kd.int .u8) w A1 l1.length l1) (hc1 : l1.length ≤ c1) (h : laws_FnChangeLeft.f k l0 l1 = some r) :
 Calls Try.prog 3 #[.slice A0 l0.length c0, .slice A1 l1.length c1] w fun e w' => e = .returned (.bool r) ∧ Below w.heap.size w w' := by
 refine enter (n := 405) (args := [.slice A0 l0.length c0, .slice A1 l1.length c1]) Try.func3 rfl rfl (by simp) (fun f0 hf => ?_)
 have B0 := Below.refl w.heap.size w
 have h0 := hf 0 _ rfl
 have C0 := on_C hr0
 have h1 := hf 1 _ rfl
 have C1 := on_C hr1
 exact laws_FnChangeLeft.w1 k r w _ _ A0 c0 l0 h0 hc0 C0 A1 c1 l1 h1 hc1 C1 B0 h
/-- What is left to prove of the law: numbers and lists alone. -/
def laws_FnChangeLeft.Pure : Prop := ∀ (l0 : List Int) (l1 : List Int), l0.length ≤ maxLen → l0.length * 1 ≤ 140737488351232 → (∀ x ∈ l0, (Lit.int .u8 x).wf = true) → l1.length ≤ maxLen → l1.length * 1 ≤ 140737488351232 → (∀ x ∈ l1, (Lit.int .u8 x).wf = true) → ∃ k, laws_FnChangeLeft.f k l0 l1 = some true
theorem laws_FnChangeLeft.walk (P : laws_FnChangeLeft.Pure) (a0 : Option Addr) (len0 cap0 : Nat) (z0 : List Int) (a1 : Option Addr) (len1 cap1 : Nat) (z1 : List Int) (w : World) (w0 : (a0 = none ∧ len0 = 0 ∧ cap0 = 0 ∧ z0 = []) ∨ ∃ x, a0 = some x ∧ len0 ≤ cap0 ∧ cap0 ≤ maxLen ∧ z0.length = cap0 ∧ (∀ i, i < z0.length → w.cell? (x.add i) = some (.int .u8 (z0.getD i 0))) ∧ ∀ n ∈ z0, (Lit.int .u8 n).wf = true) (y0 : len0 * 1 ≤ 140737488351232) (w1 : (a1 = none ∧ len1 = 0 ∧ cap1 = 0 ∧ z1 = []) ∨ ∃ x, a1 = some x ∧ len1 ≤ cap1 ∧ cap1 ≤ maxLen ∧ z1.length = cap1 ∧ (∀ i, i < z1.length → w.cell? (x.add i) = some (.int .u8 (z1.getD i 0))) ∧ ∀ n ∈ z1, (Lit.int .u8 n).wf = true) (y1 : len1 * 1 ≤ 140737488351232) :
 Calls Try.prog 3 #[.slice a0 len0 cap0, .slice a1 len1 cap1] w fun e w' => e = .returned (.bool true) ∧ Below w.heap.size w w' := by
 obtain ⟨l0, rfl, hr0, hm0, hw0, hc0⟩ := ReadsInt.ofRowC w0
 obtain ⟨l1, rfl, hr1, hm1, hw1, hc1⟩ := ReadsInt.ofRowC w1
 obtain ⟨k, h⟩ := P l0 l1 hm0 y0 hw0 hm1 y1 hw1
 exact laws_FnChangeLeft.calls k _ _ l0 _ _ l1 true w (Kd.C_of_reads (d := (0 : Int)) (h1 := fun _ => rfl) hr0) hc0 (Kd.C_of_reads (d := (0 : Int)) (h1 := fun _ => rfl) hr1) hc1 h
end

end Go.Proofs.Ytkbllhlmcfjcdaa.PFnChangeLeft
