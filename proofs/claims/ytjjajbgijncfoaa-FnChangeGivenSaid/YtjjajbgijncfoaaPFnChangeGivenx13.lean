-- MADE FOR THIS CLAIM by wip/xp/xprint.py (with the kit's print; some functions' contracts proved by hand)
import Derived.Test.YtjjajbgijncfoaaVFnChangeGiven
import Derived.Test.YtjjajbgijncfoaaPFnChangeGivenx0
import Derived.Test.YtjjajbgijncfoaaPFnChangeGivenx1
import Derived.Test.YtjjajbgijncfoaaPFnChangeGivenx2
import Derived.Test.YtjjajbgijncfoaaPFnChangeGivenx3
import Derived.Test.YtjjajbgijncfoaaPFnChangeGivenx4
import Derived.Test.YtjjajbgijncfoaaPFnChangeGivenx6
import Derived.Test.YtjjajbgijncfoaaPFnChangeGivenx7
import Derived.Test.YtjjajbgijncfoaaPFnChangeGivenx8
import Derived.Test.YtjjajbgijncfoaaPFnChangeGivenx9
import Derived.Test.YtjjajbgijncfoaaPFnChangeGivenx10
import Derived.Test.YtjjajbgijncfoaaPFnChangeGivenx11
import Derived.Test.YtjjajbgijncfoaaPFnChangeGivenx12
set_option maxHeartbeats 8000000
set_option maxRecDepth 100000
namespace Go.Proofs.Ytjjajbgijncfoaa.PFnChangeGiven
open Go.RowKit Go.Proofs.YtjjajbgijncfoaaW.PrintWords Go.Proofs.YtjjajbgijncfoaaW.PrintLast Go.Proofs.YtjjajbgijncfoaaW.PrintMore Go.Proofs.Ytjjajbgijncfoaa.Xmv
attribute [local go_sem] max2_int min2_int max_two min_two max_three min_three max_four min_four   -- for this text's walks alone
set_option linter.unusedVariables false
set_option linter.unusedSimpArgs false

/-! ### laws_FnChangeGiven: function 3 -/
section
open Go.Proofs.Ytjjajbgijncfoaa.Lw
set_option maxRecDepth 100000
@[reducible] noncomputable def laws_FnChangeGiven.B : Code := Try.f3.body.getD .skip
@[reducible] def laws_FnChangeGiven.Q0 (ws : World) (r : Bool) : Exit → Act → World → Prop := bodyPost Try.prog Try.f3 (fun e w' => e = .returned (.bool r) ∧ Below ws.heap.size ws w')
theorem laws_FnChangeGiven.u3 : Try.prog.underlying 3 = some (.int .i64) := by kernel_rfl
theorem laws_FnChangeGiven.u4 : Try.prog.underlying 4 = some (.bool) := by kernel_rfl
theorem laws_FnChangeGiven.u24 : Try.prog.underlying 24 = some (.slice (Try.prog.elem 24)) := by kernel_rfl
theorem laws_FnChangeGiven.z24 : (Try.prog.info? (Try.prog.elem 24)).map (·.size) = some 1 := by kernel_rfl
@[reducible] def laws_FnChangeGiven.Q1 (ws : World) (r : Bool) : Exit → Act → World → Prop := Exit.then (Code.wp Try.prog (srn 15 laws_FnChangeGiven.B) (laws_FnChangeGiven.Q0 ws r)) (laws_FnChangeGiven.Q0 ws r)
@[reducible] def laws_FnChangeGiven.Q2 (ws : World) (r : Bool) : Exit → Act → World → Prop := Exit.then (Code.wp Try.prog (srn 2 (ct (srn 1 (sl (srn 14 laws_FnChangeGiven.B))))) (laws_FnChangeGiven.Q1 ws r)) (laws_FnChangeGiven.Q1 ws r)
@[reducible] def laws_FnChangeGiven.Q3 (ws : World) (r : Bool) : Exit → Act → World → Prop := Exit.inBlock 0 (laws_FnChangeGiven.Q2 ws r)
@[reducible] def laws_FnChangeGiven.Q4 (ws : World) (r : Bool) : Exit → Act → World → Prop := Exit.then (fun a' w' => AtHead Try.prog (lb (bl (srn 1 (sl (srn 1 (ct (srn 1 (sl (srn 14 laws_FnChangeGiven.B))))))))) (laws_FnChangeGiven.Q3 ws r) a' w') (laws_FnChangeGiven.Q3 ws r)
def laws_FnChangeGiven.p47 (k : Nat) (L41 : List Int → List Int → Int → List Int → Int → List Int → Bool → Int → Int → List Int → Int → Int → Option Bool) (l1 : List Int) (l5 : List Int) (a6 : Int) (l7 : List Int) (a11 : Int) (l15 : List Int) (b16 : Bool) (a19 : Int) (a27 : Int) (l226 : List Int) (a227 : Int) (a228 : Int) : Option Bool := L41 l1 l5 a6 l7 a11 l15 b16 a19 a27 l226 a227 (wrap64 (a228 + 1))
theorem laws_FnChangeGiven.w47 (k : Nat) (r : Bool) (ws : World) (L41 : List Int → List Int → Int → List Int → Int → List Int → Bool → Int → Int → List Int → Int → Int → Option Bool) (ih41 : ∀ (f0 : Nat → Value) (w0 : World) (A1 : Option Addr) (k1 : Nat) (l1 : List Int) (h1 : f0 1 = .slice A1 l1.length k1) (q1 : l1.length ≤ k1) (C1 : On w0 fun x => Kd.C (Kd.int .u8) x A1 l1.length l1) (A5 : Option Addr) (k5 : Nat) (l5 : List Int) (h5 : f0 5 = .slice A5 l5.length k5) (q5 : l5.length ≤ k5) (C5 : On w0 fun x => Kd.C (Kd.int .i64) x A5 l5.length l5) (a6 : Int) (h6 : f0 6 = .int .i64 a6) (A7 : Option Addr) (k7 : Nat) (l7 : List Int) (h7 : f0 7 = .slice A7 l7.length k7) (q7 : l7.length ≤ k7) (C7 : On w0 fun x => Kd.C (Kd.int .i64) x A7 l7.length l7) (a11 : Int) (h11 : f0 11 = .int .i64 a11) (A15 : Option Addr) (k15 : Nat) (l15 : List Int) (h15 : f0 15 = .slice A15 l15.length k15) (q15 : l15.length ≤ k15) (C15 : On w0 fun x => Kd.C (Kd.int .i64) x A15 l15.length l15) (b16 : Bool) (h16 : f0 16 = .bool b16) (a19 : Int) (h19 : f0 19 = .int .i64 a19) (a27 : Int) (h27 : f0 27 = .int .i64 a27) (A226 : Option Addr) (k226 : Nat) (l226 : List Int) (h226 : f0 226 = .slice A226 l226.length k226) (q226 : l226.length ≤ k226) (C226 : On w0 fun x => Kd.C (Kd.int .i64) x A226 l226.length l226) (a227 : Int) (h227 : f0 227 = .int .i64 a227) (a228 : Int) (h228 : f0 228 = .int .i64 a228) (B0 : Below ws.heap.size ws w0) (h : L41 l1 l5 a6 l7 a11 l15 b16 a19 a27 l226 a227 a228 = some r), AtHead Try.prog (lb (bl (srn 1 (sl (srn 1 (ct (srn 1 (sl (srn 14 laws_FnChangeGiven.B))))))))) (laws_FnChangeGiven.Q3 ws r) (fr 543 f0) w0) (f0 : Nat → Value) (w0 : World) (A1 : Option Addr) (k1 : Nat) (l1 : List Int) (h1 : f0 1 = .slice A1 l1.length k1) (q1 : l1.length ≤ k1) (C1 : On w0 fun x => Kd.C (Kd.int .u8) x A1 l1.length l1) (A5 : Option Addr) (k5 : Nat) (l5 : List Int) (h5 : f0 5 = .slice A5 l5.length k5) (q5 : l5.length ≤ k5) (C5 : On w0 fun x => Kd.C (Kd.int .i64) x A5 l5.length l5) (a6 : Int) (h6 : f0 6 = .int .i64 a6) (A7 : Option Addr) (k7 : Nat) (l7 : List Int) (h7 : f0 7 = .slice A7 l7.length k7) (q7 : l7.length ≤ k7) (C7 : On w0 fun x => Kd.C (Kd.int .i64) x A7 l7.length l7) (a11 : Int) (h11 : f0 11 = .int .i64 a11) (A15 : Option Addr) (k15 : Nat) (l15 : List Int) (h15 : f0 15 = .slice A15 l15.length k15) (q15 : l15.length ≤ k15) (C15 : On w0 fun x => Kd.C (Kd.int .i64) x A15 l15.length l15) (b16 : Bool) (h16 : f0 16 = .bool b16) (a19 : Int) (h19 : f0 19 = .int .i64 a19) (a27 : Int) (h27 : f0 27 = .int .i64 a27) (A226 : Option Addr) (k226 : Nat) (l226 : List Int) (h226 : f0 226 = .slice A226 l226.length k226) (q226 : l226.length ≤ k226) (C226 : On w0 fun x => Kd.C (Kd.int .i64) x A226 l226.length l226) (a227 : Int) (h227 : f0 227 = .int .i64 a227) (a228 : Int) (h228 : f0 228 = .int .i64 a228) (B0 : Below ws.heap.size ws w0) (h : laws_FnChangeGiven.p47 k L41 l1 l5 a6 l7 a11 l15 b16 a19 a27 l226 a227 a228 = some r) : Code.wp Try.prog (srn 3 (lb (bl (srn 1 (sl (srn 1 (ct (srn 1 (sl (srn 14 laws_FnChangeGiven.B)))))))))) (laws_FnChangeGiven.Q4 ws r) (fr 543 f0) w0 := by
 unfold laws_FnChangeGiven.p47 at h
 refine wp_region_lit ?_
 refine bi_ (v := .int .i64 (wrap64 (a228 + 1))) rfl rfl rfl rfl (go0 rfl) h228 rfl (i_add rfl) ?_
 refine m0 (.int .i64 (wrap64 (a228 + 1))) rfl rfl rfl rfl rfl ?_
 refine nilt ?_
 exact ih41 _ _ A1 k1 l1 h1 q1 C1 A5 k5 l5 h5 q5 C5 a6 h6 A7 k7 l7 h7 q7 C7 a11 h11 A15 k15 l15 h15 q15 C15 b16 h16 a19 h19 a27 h27 A226 k226 l226 h226 q226 C226 a227 h227 (wrap64 (a228 + 1)) rfl B0 h
@[reducible] def laws_FnChangeGiven.Q5 (ws : World) (r : Bool) : Exit → Act → World → Prop := Exit.then (Code.wp Try.prog (srn 4 (ct (srn 1 (sl (srn 14 laws_FnChangeGiven.B))))) (laws_FnChangeGiven.Q1 ws r)) (laws_FnChangeGiven.Q1 ws r)
@[reducible] def laws_FnChangeGiven.Q6 (ws : World) (r : Bool) : Exit → Act → World → Prop := Exit.then (Code.wp Try.prog (srn 2 (ct (srn 1 (sl (srn 3 (ct (srn 1 (sl (srn 14 laws_FnChangeGiven.B))))))))) (laws_FnChangeGiven.Q5 ws r)) (laws_FnChangeGiven.Q5 ws r)
@[reducible] def laws_FnChangeGiven.Q7 (ws : World) (r : Bool) : Exit → Act → World → Prop := Exit.inBlock 2 (laws_FnChangeGiven.Q6 ws r)
@[reducible] def laws_FnChangeGiven.Q8 (ws : World) (r : Bool) : Exit → Act → World → Prop := Exit.then (fun a' w' => AtHead Try.prog (lb (bl (srn 1 (sl (srn 1 (ct (srn 1 (sl (srn 3 (ct (srn 1 (sl (srn 14 laws_FnChangeGiven.B))))))))))))) (laws_FnChangeGiven.Q7 ws r) a' w') (laws_FnChangeGiven.Q7 ws r)
def laws_FnChangeGiven.p67 (k : Nat) (L54 : List Int → List Int → Int → Int → List Int → Bool → Int → Int → List Int → Int → Int → Option Bool) (l1 : List Int) (l5 : List Int) (a6 : Int) (a11 : Int) (l15 : List Int) (b16 : Bool) (a19 : Int) (a30 : Int) (l259 : List Int) (a260 : Int) (a261 : Int) : Option Bool := L54 l1 l5 a6 a11 l15 b16 a19 a30 l259 a260 (wrap64 (a261 + 1))
theorem laws_FnChangeGiven.w67 (k : Nat) (r : Bool) (ws : World) (L54 : List Int → List Int → Int → Int → List Int → Bool → Int → Int → List Int → Int → Int → Option Bool) (ih54 : ∀ (f0 : Nat → Value) (w0 : World) (A1 : Option Addr) (k1 : Nat) (l1 : List Int) (h1 : f0 1 = .slice A1 l1.length k1) (q1 : l1.length ≤ k1) (C1 : On w0 fun x => Kd.C (Kd.int .u8) x A1 l1.length l1) (A5 : Option Addr) (k5 : Nat) (l5 : List Int) (h5 : f0 5 = .slice A5 l5.length k5) (q5 : l5.length ≤ k5) (C5 : On w0 fun x => Kd.C (Kd.int .i64) x A5 l5.length l5) (a6 : Int) (h6 : f0 6 = .int .i64 a6) (a11 : Int) (h11 : f0 11 = .int .i64 a11) (A15 : Option Addr) (k15 : Nat) (l15 : List Int) (h15 : f0 15 = .slice A15 l15.length k15) (q15 : l15.length ≤ k15) (C15 : On w0 fun x => Kd.C (Kd.int .i64) x A15 l15.length l15) (b16 : Bool) (h16 : f0 16 = .bool b16) (a19 : Int) (h19 : f0 19 = .int .i64 a19) (a30 : Int) (h30 : f0 30 = .int .i64 a30) (A259 : Option Addr) (k259 : Nat) (l259 : List Int) (h259 : f0 259 = .slice A259 l259.length k259) (q259 : l259.length ≤ k259) (C259 : On w0 fun x => Kd.C (Kd.int .i64) x A259 l259.length l259) (a260 : Int) (h260 : f0 260 = .int .i64 a260) (a261 : Int) (h261 : f0 261 = .int .i64 a261) (B0 : Below ws.heap.size ws w0) (h : L54 l1 l5 a6 a11 l15 b16 a19 a30 l259 a260 a261 = some r), AtHead Try.prog (lb (bl (srn 1 (sl (srn 1 (ct (srn 1 (sl (srn 3 (ct (srn 1 (sl (srn 14 laws_FnChangeGiven.B))))))))))))) (laws_FnChangeGiven.Q7 ws r) (fr 543 f0) w0) (f0 : Nat → Value) (w0 : World) (A1 : Option Addr) (k1 : Nat) (l1 : List Int) (h1 : f0 1 = .slice A1 l1.length k1) (q1 : l1.length ≤ k1) (C1 : On w0 fun x => Kd.C (Kd.int .u8) x A1 l1.length l1) (A5 : Option Addr) (k5 : Nat) (l5 : List Int) (h5 : f0 5 = .slice A5 l5.length k5) (q5 : l5.length ≤ k5) (C5 : On w0 fun x => Kd.C (Kd.int .i64) x A5 l5.length l5) (a6 : Int) (h6 : f0 6 = .int .i64 a6) (a11 : Int) (h11 : f0 11 = .int .i64 a11) (A15 : Option Addr) (k15 : Nat) (l15 : List Int) (h15 : f0 15 = .slice A15 l15.length k15) (q15 : l15.length ≤ k15) (C15 : On w0 fun x => Kd.C (Kd.int .i64) x A15 l15.length l15) (b16 : Bool) (h16 : f0 16 = .bool b16) (a19 : Int) (h19 : f0 19 = .int .i64 a19) (a30 : Int) (h30 : f0 30 = .int .i64 a30) (A259 : Option Addr) (k259 : Nat) (l259 : List Int) (h259 : f0 259 = .slice A259 l259.length k259) (q259 : l259.length ≤ k259) (C259 : On w0 fun x => Kd.C (Kd.int .i64) x A259 l259.length l259) (a260 : Int) (h260 : f0 260 = .int .i64 a260) (a261 : Int) (h261 : f0 261 = .int .i64 a261) (B0 : Below ws.heap.size ws w0) (h : laws_FnChangeGiven.p67 k L54 l1 l5 a6 a11 l15 b16 a19 a30 l259 a260 a261 = some r) : Code.wp Try.prog (srn 3 (lb (bl (srn 1 (sl (srn 1 (ct (srn 1 (sl (srn 3 (ct (srn 1 (sl (srn 14 laws_FnChangeGiven.B)))))))))))))) (laws_FnChangeGiven.Q8 ws r) (fr 543 f0) w0 := by
 unfold laws_FnChangeGiven.p67 at h
 refine wp_region_lit ?_
 refine bi_ (v := .int .i64 (wrap64 (a261 + 1))) rfl rfl rfl rfl (go0 rfl) h261 rfl (i_add rfl) ?_
 refine m0 (.int .i64 (wrap64 (a261 + 1))) rfl rfl rfl rfl rfl ?_
 refine nilt ?_
 exact ih54 _ _ A1 k1 l1 h1 q1 C1 A5 k5 l5 h5 q5 C5 a6 h6 a11 h11 A15 k15 l15 h15 q15 C15 b16 h16 a19 h19 a30 h30 A259 k259 l259 h259 q259 C259 a260 h260 (wrap64 (a261 + 1)) rfl B0 h
@[reducible] def laws_FnChangeGiven.Q9 (ws : World) (r : Bool) : Exit → Act → World → Prop := Exit.then (Code.wp Try.prog (srn 29 laws_FnChangeGiven.B) (laws_FnChangeGiven.Q0 ws r)) (laws_FnChangeGiven.Q0 ws r)
@[reducible] def laws_FnChangeGiven.Q10 (ws : World) (r : Bool) : Exit → Act → World → Prop := Exit.then (Code.wp Try.prog (srn 2 (ct (srn 1 (sl (srn 28 laws_FnChangeGiven.B))))) (laws_FnChangeGiven.Q9 ws r)) (laws_FnChangeGiven.Q9 ws r)
@[reducible] def laws_FnChangeGiven.Q11 (ws : World) (r : Bool) : Exit → Act → World → Prop := Exit.inBlock 4 (laws_FnChangeGiven.Q10 ws r)
@[reducible] def laws_FnChangeGiven.Q12 (ws : World) (r : Bool) : Exit → Act → World → Prop := Exit.then (fun a' w' => AtHead Try.prog (lb (bl (srn 1 (sl (srn 1 (ct (srn 1 (sl (srn 28 laws_FnChangeGiven.B))))))))) (laws_FnChangeGiven.Q11 ws r) a' w') (laws_FnChangeGiven.Q11 ws r)
def laws_FnChangeGiven.p142 (k : Nat) (L138 : List Int → Int → Int → Int → Int → Int → Option Bool) (l44 : List Int) (a45 : Int) (a50 : Int) (a51 : Int) (a62 : Int) (a63 : Int) : Option Bool := L138 l44 a45 a50 a51 a62 (wrap64 (a63 + 1))
theorem laws_FnChangeGiven.w142 (k : Nat) (r : Bool) (ws : World) (L138 : List Int → Int → Int → Int → Int → Int → Option Bool) (ih138 : ∀ (f0 : Nat → Value) (w0 : World) (A44 : Option Addr) (k44 : Nat) (l44 : List Int) (h44 : f0 44 = .slice A44 l44.length k44) (q44 : l44.length ≤ k44) (C44 : On w0 fun x => Kd.C (Kd.int .i64) x A44 l44.length l44) (a45 : Int) (h45 : f0 45 = .int .i64 a45) (a50 : Int) (h50 : f0 50 = .int .i64 a50) (a51 : Int) (h51 : f0 51 = .int .i64 a51) (a62 : Int) (h62 : f0 62 = .int .i64 a62) (a63 : Int) (h63 : f0 63 = .int .i64 a63) (B0 : Below ws.heap.size ws w0) (h : L138 l44 a45 a50 a51 a62 a63 = some r), AtHead Try.prog (lb (bl (srn 1 (sl (srn 1 (ct (srn 1 (sl (srn 28 laws_FnChangeGiven.B))))))))) (laws_FnChangeGiven.Q11 ws r) (fr 543 f0) w0) (f0 : Nat → Value) (w0 : World) (A44 : Option Addr) (k44 : Nat) (l44 : List Int) (h44 : f0 44 = .slice A44 l44.length k44) (q44 : l44.length ≤ k44) (C44 : On w0 fun x => Kd.C (Kd.int .i64) x A44 l44.length l44) (a45 : Int) (h45 : f0 45 = .int .i64 a45) (a50 : Int) (h50 : f0 50 = .int .i64 a50) (a51 : Int) (h51 : f0 51 = .int .i64 a51) (a62 : Int) (h62 : f0 62 = .int .i64 a62) (a63 : Int) (h63 : f0 63 = .int .i64 a63) (B0 : Below ws.heap.size ws w0) (h : laws_FnChangeGiven.p142 k L138 l44 a45 a50 a51 a62 a63 = some r) : Code.wp Try.prog (srn 2 (lb (bl (srn 1 (sl (srn 1 (ct (srn 1 (sl (srn 28 laws_FnChangeGiven.B)))))))))) (laws_FnChangeGiven.Q12 ws r) (fr 543 f0) w0 := by
 unfold laws_FnChangeGiven.p142 at h
 refine wp_region_lit ?_
 refine m0 (.int .i64 a63) rfl rfl rfl rfl h63 ?_
 refine bi_ (v := .int .i64 (wrap64 (a63 + 1))) rfl rfl rfl rfl (go0 rfl) rfl rfl (i_add rfl) ?_
 refine a0 (.int .i64 (wrap64 (a63 + 1))) rfl rfl rfl rfl rfl ?_
 refine nilt ?_
 exact ih138 _ _ A44 k44 l44 h44 q44 C44 a45 h45 a50 h50 a51 h51 a62 h62 (wrap64 (a63 + 1)) rfl B0 h
def laws_FnChangeGiven.p143 (k : Nat) (a45 : Int) (a50 : Int) (a51 : Int) (a62 : Int) : Option Bool := some (((wrap64 (a62 * a51)) == (wrap64 (a50 * a45))))
theorem laws_FnChangeGiven.w143 (k : Nat) (r : Bool) (ws : World) (f0 : Nat → Value) (w0 : World) (a45 : Int) (h45 : f0 45 = .int .i64 a45) (a50 : Int) (h50 : f0 50 = .int .i64 a50) (a51 : Int) (h51 : f0 51 = .int .i64 a51) (a62 : Int) (h62 : f0 62 = .int .i64 a62) (B0 : Below ws.heap.size ws w0) (h : laws_FnChangeGiven.p143 k a45 a50 a51 a62 = some r) : Code.wp Try.prog (srn 2 (ct (srn 1 (sl (srn 28 laws_FnChangeGiven.B))))) (laws_FnChangeGiven.Q9 ws r) (fr 543 f0) w0 := by
 unfold laws_FnChangeGiven.p143 at h
 refine wp_seq ?_
 refine wp_region_lit ?_
 refine m0 (.int .i64 a62) rfl rfl rfl rfl h62 ?_
 refine m0 (.int .i64 a51) rfl rfl rfl rfl h51 ?_
 refine bi_ (v := .int .i64 (wrap64 (a62 * a51))) rfl rfl rfl rfl (go0 rfl) rfl rfl (i_mul rfl) ?_
 refine m0 (.int .i64 a50) rfl rfl rfl rfl h50 ?_
 refine m0 (.int .i64 a45) rfl rfl rfl rfl h45 ?_
 refine bi_ (v := .int .i64 (wrap64 (a50 * a45))) rfl rfl rfl rfl (go0 rfl) rfl rfl (i_mul rfl) ?_
 refine bi_ (v := .bool (((wrap64 (a62 * a51)) == (wrap64 (a50 * a45))))) rfl rfl rfl rfl (go0 rfl) rfl rfl (i_eql rfl) ?_
 refine a0 (.bool ((wrap64 (a62 * a51)) == (wrap64 (a50 * a45)))) rfl rfl rfl rfl rfl ?_
 refine nilt ?_
 refine wp_ret ?_
 refine then_r ?_
 exact leave rfl rfl rfl ⟨rb (Option.some.inj h), B0⟩
def laws_FnChangeGiven.l138 (k : Nat) : Nat → List Int → Int → Int → Int → Int → Int → Option Bool
 | 0, _, _, _, _, _, _ => none
 | n + 1, l44, a45, a50, a51, a62, a63 => if (decide (a63 ≤ a45)) = true then ((impl_FewestCoins.f k l44 a63).bind fun t140 => if t140.2 = true then (laws_FnChangeGiven.p142 k (laws_FnChangeGiven.l138 k n) l44 a45 a50 a51 (wrap64 (a62 + t140.1)) a63) else none) else (laws_FnChangeGiven.p143 k a45 a50 a51 a62)
theorem laws_FnChangeGiven.w138 (k : Nat) (r : Bool) (ws : World) : ∀ (n : Nat), ∀ (f0 : Nat → Value) (w0 : World) (A44 : Option Addr) (k44 : Nat) (l44 : List Int) (h44 : f0 44 = .slice A44 l44.length k44) (q44 : l44.length ≤ k44) (C44 : On w0 fun x => Kd.C (Kd.int .i64) x A44 l44.length l44) (a45 : Int) (h45 : f0 45 = .int .i64 a45) (a50 : Int) (h50 : f0 50 = .int .i64 a50) (a51 : Int) (h51 : f0 51 = .int .i64 a51) (a62 : Int) (h62 : f0 62 = .int .i64 a62) (a63 : Int) (h63 : f0 63 = .int .i64 a63) (B0 : Below ws.heap.size ws w0) (h : laws_FnChangeGiven.l138 k n l44 a45 a50 a51 a62 a63 = some r), AtHead Try.prog (lb (bl (srn 1 (sl (srn 1 (ct (srn 1 (sl (srn 28 laws_FnChangeGiven.B))))))))) (laws_FnChangeGiven.Q11 ws r) (fr 543 f0) w0 := by
 intro n
 induction n with
 | zero => intro f0 w0 A44 k44 l44 h44 q44 C44 a45 h45 a50 h50 a51 h51 a62 h62 a63 h63 B0 h; rw [laws_FnChangeGiven.l138] at h; cases h
 | succ n ih138 =>
  intro f0 w0 A44 k44 l44 h44 q44 C44 a45 h45 a50 h50 a51 h51 a62 h62 a63 h63 B0 h
  rw [laws_FnChangeGiven.l138] at h
  refine head_round ?_
  refine wp_seq ?_
  refine wp_seq ?_
  refine wp_region_lit ?_
  refine m0 (.int .i64 a63) rfl rfl rfl rfl h63 ?_
  refine m0 (.int .i64 a45) rfl rfl rfl rfl h45 ?_
  refine bi_ (v := .bool (decide (a63 ≤ a45))) rfl rfl rfl rfl (go0 rfl) rfl rfl (i_leq rfl) ?_
  refine nilt ?_
  rcases ifs h with ⟨c139, h⟩ | ⟨c139, h⟩
  · refine cT ?_ (Eq.trans rfl (vb c139)) rfl
    refine wp_skip ?_
    refine then_n ?_
    refine wp_seq ?_
    refine wp_block ?_
    refine wp_seq ?_
    refine wp_region_lit ?_
    refine m0 (.slice A44 l44.length k44) rfl rfl rfl rfl h44 ?_
    refine m0 (.int .i64 a63) rfl rfl rfl rfl h63 ?_
    obtain ⟨⟨r140_1, r140_2⟩, e140, h⟩ := bind_ h
    refine cl_ Try.func11 (by kernel_rfl) rfl rfl rfl rfl (go0 rfl) (argc (v := .slice A44 l44.length k44) rfl (argc (v := .int .i64 a63) rfl argn)) ?_
    refine (impl_FewestCoins.calls k A44 k44 l44 a63 _ _ _ (C44 _ (Below.refl _ _)) q44 e140).mono ?_
    rintro e w140 ⟨rfl, bb140⟩
    refine ⟨_, rfl, ?_⟩
    refine m0 (.tuple #[.int .i64 r140_1, .bool r140_2]) rfl rfl rfl rfl rfl ?_
    refine x0 (.int .i64 r140_1) rfl rfl rfl rfl rfl rfl ?_
    refine x0 (.bool r140_2) rfl rfl rfl rfl rfl rfl ?_
    refine a0 (.int .i64 r140_1) rfl rfl rfl rfl rfl ?_
    refine a0 (.bool r140_2) rfl rfl rfl rfl rfl ?_
    refine nilt ?_
    refine wp_seq ?_
    refine wp_seq ?_
    refine wp_region_lit ?_
    obtain ⟨c141, h⟩ := ify h
    refine m0 (.bool true) rfl rfl rfl rfl (Eq.trans rfl (vb c141)) ?_
    refine nt_ (c := false) rfl rfl rfl (go0 rfl) rfl rfl ?_
    refine nilt ?_
    refine cF ?_ rfl rfl
    refine wp_skip ?_
    refine then_n ?_
    refine wp_region_lit ?_
    refine m0 (.int .i64 a62) rfl rfl rfl rfl h62 ?_
    refine m0 (.int .i64 r140_1) rfl rfl rfl rfl rfl ?_
    refine bi_ (v := .int .i64 (wrap64 (a62 + r140_1))) rfl rfl rfl rfl (go0 rfl) rfl rfl (i_add rfl) ?_
    refine a0 (.int .i64 (wrap64 (a62 + r140_1))) rfl rfl rfl rfl rfl ?_
    refine wpList_nil ?_
    refine blk_n ?_
    refine then_n ?_
    exact laws_FnChangeGiven.w142 k r ws (laws_FnChangeGiven.l138 k n) ih138 _ _ A44 k44 l44 h44 q44 (On.adv C44 bb140) a45 h45 a50 h50 a51 h51 (wrap64 (a62 + r140_1)) rfl a63 h63 (below_step B0 bb140) h
  refine cF ?_ (Eq.trans rfl (vb c139)) rfl
  refine wp_exit ?_
  refine then_x ?_
  refine then_x ?_
  refine blk_x ?_
  refine then_n ?_
  exact laws_FnChangeGiven.w143 k r ws _ _ a45 h45 a50 h50 a51 h51 a62 h62 B0 h
def laws_FnChangeGiven.p134 (k : Nat) (l44 : List Int) (a45 : Int) (a50 : Int) (a51 : Int) (b52 : Bool) : Option Bool := (if b52 = true then (some (decide (a45 ≤ 60))) else (some false)).bind fun d135 => if d135 = true then (laws_FnChangeGiven.l138 k k l44 a45 a50 a51 0 1) else (some true)
theorem laws_FnChangeGiven.w134 (k : Nat) (r : Bool) (ws : World) (f0 : Nat → Value) (w0 : World) (A44 : Option Addr) (k44 : Nat) (l44 : List Int) (h44 : f0 44 = .slice A44 l44.length k44) (q44 : l44.length ≤ k44) (C44 : On w0 fun x => Kd.C (Kd.int .i64) x A44 l44.length l44) (a45 : Int) (h45 : f0 45 = .int .i64 a45) (a50 : Int) (h50 : f0 50 = .int .i64 a50) (a51 : Int) (h51 : f0 51 = .int .i64 a51) (b52 : Bool) (h52 : f0 52 = .bool b52) (B0 : Below ws.heap.size ws w0) (h : laws_FnChangeGiven.p134 k l44 a45 a50 a51 b52 = some r) : Code.wp Try.prog (srn 28 laws_FnChangeGiven.B) (laws_FnChangeGiven.Q0 ws r) (fr 543 f0) w0 := by
 unfold laws_FnChangeGiven.p134 at h
 refine wp_seq ?_
 refine wp_seq ?_
 refine wp_region_lit ?_
 refine m0 (.bool b52) rfl rfl rfl rfl h52 ?_
 refine m0 (.bool b52) rfl rfl rfl rfl rfl ?_
 obtain ⟨d135, e135, h⟩ := bind_ h
 refine cut_ 3 (fun f g w' => Same 66 f g ∧ g 519 = .bool d135 ∧ Below w0.heap.size w0 w') ?_ ?_
 · clear h; have h := e135; clear e135
   rcases ifs h with ⟨c136, h⟩ | ⟨c136, h⟩
   · refine mv_ (v := .int .i64 a45) rfl rfl rfl (go1 (j := 1) (t := 516) rfl (by kernel_rfl) rfl (Eq.trans rfl (vb c136))) h45 ?_
     refine bi_ (v := .bool (decide (a45 ≤ 60))) rfl rfl rfl rfl (go1 (j := 1) (t := 516) rfl (by kernel_rfl) rfl (Eq.trans rfl (vb c136))) rfl rfl (i_leq rfl) ?_
     refine pk_ (b := true) (v := .bool (decide (a45 ≤ 60))) rfl rfl rfl rfl rfl (go0 rfl) (Eq.trans rfl (vb c136)) rfl ?_
     refine wpList_nil ?_
     exact then_n ⟨_, rfl, (Same.put (Same.put (Same.put (Same.refl _ _) rfl) rfl) rfl), (Eq.trans rfl (vb (Option.some.inj h))), (Below.refl _ _)⟩
   refine skp (no1 (j := 1) (t := 516) rfl (by kernel_rfl) rfl (Eq.trans rfl (vb c136)) rfl) rfl ?_
   refine skp (no1 (j := 1) (t := 516) rfl (by kernel_rfl) rfl (Eq.trans rfl (vb c136)) rfl) rfl ?_
   refine pk_ (b := false) (v := .bool false) rfl rfl rfl rfl rfl (go0 rfl) (Eq.trans rfl (vb c136)) rfl ?_
   refine wpList_nil ?_
   exact then_n ⟨_, rfl, (Same.put (Same.put (Same.put (Same.refl _ _) rfl) rfl) rfl), (Eq.trans rfl (vb (Option.some.inj h))), (Below.refl _ _)⟩
 clear e135; rintro g135 w135 ⟨S135, x135_519, bb135⟩
 refine nilt ?_
 rcases ifs h with ⟨c137, h⟩ | ⟨c137, h⟩
 · refine cT ?_ (Eq.trans x135_519 (vb c137)) rfl
   refine wp_seq ?_
   refine wp_region_lit ?_
   refine a0 (.int .i64 0) rfl rfl rfl rfl rfl ?_
   refine nilt ?_
   refine wp_seq ?_
   refine wp_seq ?_
   refine wp_region_lit ?_
   refine a0 (.int .i64 1) rfl rfl rfl rfl rfl ?_
   refine nilt ?_
   refine wp_block ?_
   exact head_loop (laws_FnChangeGiven.w138 k r ws k _ _ A44 k44 l44 (Eq.trans (S135 44 rfl) h44) q44 (On.adv C44 bb135) a45 (Eq.trans (S135 45 rfl) h45) a50 (Eq.trans (S135 50 rfl) h50) a51 (Eq.trans (S135 51 rfl) h51) 0 rfl 1 rfl (below_step B0 bb135) h)
 refine cF ?_ (Eq.trans x135_519 (vb c137)) rfl
 refine wp_skip ?_
 refine then_n ?_
 refine wp_seq ?_
 refine wp_region_lit ?_
 refine a0 (.bool true) rfl rfl rfl rfl rfl ?_
 refine nilt ?_
 refine wp_ret ?_
 exact leave rfl rfl rfl ⟨rb (Option.some.inj h), (below_step B0 bb135)⟩
def laws_FnChangeGiven.p119 (k : Nat) (l44 : List Int) (a45 : Int) (l46 : List Int) (b47 : Bool) (a50 : Int) (a51 : Int) (b52 : Bool) : Option Bool := if b47 = true then ((impl_FirstFailure.f k l44).bind fun t121 => (laws_tRises.f k l46).bind fun r122_0 => if (!r122_0) = true then none else (if (decide (0 < (l46.length : Int))) = true then ((if (!t121.2) = true then (some true) else (if (decide ((0 : Int) ≤ 0) && decide (0 < (l46.length : Int))) = true then (some (t121.1 != (rd l46 0))) else none)).bind fun d126 => some d126) else (some false)).bind fun d124 => if d124 = true then none else (if t121.2 = true then (some (decide (t121.1 ≤ a45))) else (some false)).bind fun d130 => (if d130 = true then (some ((l46.length : Int) == 0)) else (some false)).bind fun d132 => if d132 = true then none else laws_FnChangeGiven.p134 k l44 a45 a50 a51 b52) else (laws_FnChangeGiven.p134 k l44 a45 a50 a51 b52)
theorem laws_FnChangeGiven.w119 (k : Nat) (r : Bool) (ws : World) (f0 : Nat → Value) (w0 : World) (A44 : Option Addr) (k44 : Nat) (l44 : List Int) (h44 : f0 44 = .slice A44 l44.length k44) (q44 : l44.length ≤ k44) (C44 : On w0 fun x => Kd.C (Kd.int .i64) x A44 l44.length l44) (a45 : Int) (h45 : f0 45 = .int .i64 a45) (A46 : Option Addr) (k46 : Nat) (l46 : List Int) (h46 : f0 46 = .slice A46 l46.length k46) (q46 : l46.length ≤ k46) (C46 : On w0 fun x => Kd.C (Kd.int .i64) x A46 l46.length l46) (b47 : Bool) (h47 : f0 47 = .bool b47) (a50 : Int) (h50 : f0 50 = .int .i64 a50) (a51 : Int) (h51 : f0 51 = .int .i64 a51) (b52 : Bool) (h52 : f0 52 = .bool b52) (B0 : Below ws.heap.size ws w0) (h : laws_FnChangeGiven.p119 k l44 a45 l46 b47 a50 a51 b52 = some r) : Code.wp Try.prog (srn 27 laws_FnChangeGiven.B) (laws_FnChangeGiven.Q0 ws r) (fr 543 f0) w0 := by
 unfold laws_FnChangeGiven.p119 at h
 refine wp_seq ?_
 refine wp_seq ?_
 refine wp_region_lit ?_
 refine m0 (.bool b47) rfl rfl rfl rfl h47 ?_
 refine nilt ?_
 rcases ifs h with ⟨c120, h⟩ | ⟨c120, h⟩
 · refine cT ?_ (Eq.trans rfl (vb c120)) rfl
   refine wp_seq ?_
   refine wp_region_lit ?_
   refine m0 (.slice A44 l44.length k44) rfl rfl rfl rfl h44 ?_
   obtain ⟨⟨r121_1, r121_2⟩, e121, h⟩ := bind_ h
   refine cl_ Try.func26 (by kernel_rfl) rfl rfl rfl rfl (go0 rfl) (argc (v := .slice A44 l44.length k44) rfl argn) ?_
   refine (impl_FirstFailure.calls k A44 k44 l44 _ _ _ (C44 _ (Below.refl _ _)) q44 e121).mono ?_
   rintro e w121 ⟨rfl, bb121⟩
   refine ⟨_, rfl, ?_⟩
   refine m0 (.tuple #[.int .i64 r121_1, .bool r121_2]) rfl rfl rfl rfl rfl ?_
   refine x0 (.int .i64 r121_1) rfl rfl rfl rfl rfl rfl ?_
   refine x0 (.bool r121_2) rfl rfl rfl rfl rfl rfl ?_
   refine a0 (.int .i64 r121_1) rfl rfl rfl rfl rfl ?_
   refine a0 (.bool r121_2) rfl rfl rfl rfl rfl ?_
   refine nilt ?_
   refine wp_seq ?_
   refine wp_region_lit ?_
   refine m0 (.slice A46 l46.length k46) rfl rfl rfl rfl h46 ?_
   obtain ⟨r122_0, e122, h⟩ := bind_ h
   refine cl_ Try.func34 (by kernel_rfl) rfl rfl rfl rfl (go0 rfl) (argc (v := .slice A46 l46.length k46) rfl argn) ?_
   refine (laws_tRises.calls k A46 k46 l46 _ _ (C46 _ bb121) q46 e122).mono ?_
   rintro e w122 ⟨rfl, d122⟩
   have bb122 := Drawn0.below d122
   refine ⟨_, rfl, ?_⟩
   obtain ⟨c123, h⟩ := ifn h
   refine nt_ (c := false) rfl rfl rfl (go0 rfl) rfl c123 ?_
   refine m0 (.bool false) rfl rfl rfl rfl rfl ?_
   refine mv_ (v := .slice A46 l46.length k46) rfl rfl rfl (go1 (j := 3) (t := 486) rfl (by kernel_rfl) rfl rfl) h46 ?_
   refine ln_ laws_FnChangeGiven.u24 rfl rfl rfl (go1 (j := 3) (t := 486) rfl (by kernel_rfl) rfl rfl) rfl ?_
   refine bi_ (v := .bool (decide (0 < (l46.length : Int)))) rfl rfl rfl rfl (go1 (j := 3) (t := 486) rfl (by kernel_rfl) rfl rfl) rfl rfl (i_gtr rfl) ?_
   refine mv_ (v := .bool (decide (0 < (l46.length : Int)))) rfl rfl rfl (go1 (j := 3) (t := 486) rfl (by kernel_rfl) rfl rfl) rfl ?_
   obtain ⟨d124, e124, h⟩ := bind_ h
   replace h := ifn h
   obtain ⟨y124, h⟩ := h
   subst y124
   refine cut_ 10 (fun f g w' => Same 66 f g ∧ g 500 = .bool false ∧ g 486 = .bool false ∧ Below w122.heap.size w122 w') ?_ ?_
   · clear h; have h := e124; clear e124
     rcases ifs h with ⟨c125, h⟩ | ⟨c125, h⟩
     · refine mv_ (v := .bool r121_2) rfl rfl rfl (go1 (j := 7) (t := 490) rfl (by kernel_rfl) rfl (Eq.trans rfl (vb c125))) rfl ?_
       refine nt_ (c := !r121_2) rfl rfl rfl (go1 (j := 7) (t := 490) rfl (by kernel_rfl) rfl (Eq.trans rfl (vb c125))) rfl rfl ?_
       refine mv_ (v := .bool (!r121_2)) rfl rfl rfl (go1 (j := 7) (t := 490) rfl (by kernel_rfl) rfl (Eq.trans rfl (vb c125))) rfl ?_
       obtain ⟨d126, e126, h⟩ := bind_ h
       refine cut_ 6 (fun f g w' => Same 66 f g ∧ g 499 = .bool d126 ∧ g 486 = .bool false ∧ g 490 = .bool true ∧ Below w122.heap.size w122 w') ?_ ?_
       · clear h; have h := e126; clear e126
         rcases ifs h with ⟨c127, h⟩ | ⟨c127, h⟩
         · refine skp (no1 (j := 10) (t := 493) rfl (by kernel_rfl) rfl (Eq.trans rfl (vb c127)) rfl) rfl ?_
           refine skp (no1 (j := 10) (t := 493) rfl (by kernel_rfl) rfl (Eq.trans rfl (vb c127)) rfl) rfl ?_
           refine skp (no1 (j := 10) (t := 493) rfl (by kernel_rfl) rfl (Eq.trans rfl (vb c127)) rfl) rfl ?_
           refine skp (no1 (j := 10) (t := 493) rfl (by kernel_rfl) rfl (Eq.trans rfl (vb c127)) rfl) rfl ?_
           refine skp (no1 (j := 10) (t := 493) rfl (by kernel_rfl) rfl (Eq.trans rfl (vb c127)) rfl) rfl ?_
           refine pk_ (b := true) (v := .bool true) rfl rfl rfl rfl rfl (go1 (j := 7) (t := 490) rfl (by kernel_rfl) rfl (Eq.trans rfl (vb c125))) (Eq.trans rfl (vb c127)) rfl ?_
           refine wpList_nil ?_
           exact then_n ⟨_, rfl, (Same.put (Same.put (Same.put (Same.put (Same.put (Same.put (Same.refl _ _) rfl) rfl) rfl) rfl) rfl) rfl), (Eq.trans rfl (vb (Option.some.inj h))), rfl, (Eq.trans rfl (vb c125)), (Below.refl _ _)⟩
         refine mv_ (v := .int .i64 r121_1) rfl rfl rfl (go1 (j := 10) (t := 493) rfl (by kernel_rfl) rfl (Eq.trans rfl (vb c127))) rfl ?_
         refine mv_ (v := .slice A46 l46.length k46) rfl rfl rfl (go1 (j := 10) (t := 493) rfl (by kernel_rfl) rfl (Eq.trans rfl (vb c127))) h46 ?_
         obtain ⟨c128, h⟩ := ify h
         replace c128 := bnd c128
         obtain ⟨ad129, ead129, xad129⟩ := at_int_on (On.adv C46 (below_step bb121 bb122)) 0 c128.1 (by have := c128.2; omega)
         refine ix_ (q := 0) laws_FnChangeGiven.u24 laws_FnChangeGiven.z24 rfl rfl rfl rfl (go1 (j := 10) (t := 493) rfl (by kernel_rfl) rfl (Eq.trans rfl (vb c127))) rfl rfl ead129 c128 ?_
         refine ld_ (v := .int .i64 (rd l46 0)) rfl rfl rfl (go1 (j := 10) (t := 493) rfl (by kernel_rfl) rfl (Eq.trans rfl (vb c127))) rfl (load_i laws_FnChangeGiven.u3 (xad129 _ (Below.refl _ _))) ?_
         refine bi_ (v := .bool ((r121_1 != (rd l46 0)))) rfl rfl rfl rfl (go1 (j := 10) (t := 493) rfl (by kernel_rfl) rfl (Eq.trans rfl (vb c127))) rfl rfl (i_neq rfl) ?_
         refine pk_ (b := false) (v := .bool (r121_1 != (rd l46 0))) rfl rfl rfl rfl rfl (go1 (j := 7) (t := 490) rfl (by kernel_rfl) rfl (Eq.trans rfl (vb c125))) (Eq.trans rfl (vb c127)) rfl ?_
         refine wpList_nil ?_
         exact then_n ⟨_, rfl, (Same.put (Same.put (Same.put (Same.put (Same.put (Same.put (Same.refl _ _) rfl) rfl) rfl) rfl) rfl) rfl), (Eq.trans rfl (vb (Option.some.inj h))), rfl, (Eq.trans rfl (vb c125)), (Below.refl _ _)⟩
       clear e126; rintro g126 w126 ⟨S126, x126_499, x126_486, x126_490, bb126⟩
       refine pk_ (b := true) (v := .bool d126) rfl rfl rfl rfl rfl (go1 (j := 3) (t := 486) rfl (by kernel_rfl) rfl x126_486) x126_490 x126_499 ?_
       refine wpList_nil ?_
       exact then_n ⟨_, rfl, (Same.put (Same.trans (Same.put (Same.put (Same.put (Same.refl _ _) rfl) rfl) rfl) S126) rfl), (Eq.trans rfl (vb (Option.some.inj h))), x126_486, bb126⟩
     refine skp (no1 (j := 7) (t := 490) rfl (by kernel_rfl) rfl (Eq.trans rfl (vb c125)) rfl) rfl ?_
     refine skp (no1 (j := 7) (t := 490) rfl (by kernel_rfl) rfl (Eq.trans rfl (vb c125)) rfl) rfl ?_
     refine skp (no1 (j := 7) (t := 490) rfl (by kernel_rfl) rfl (Eq.trans rfl (vb c125)) rfl) rfl ?_
     refine skp (no1u (j := 10) (t := 493) rfl (by kernel_rfl) rfl rfl) rfl ?_
     refine skp (no1u (j := 10) (t := 493) rfl (by kernel_rfl) rfl rfl) rfl ?_
     refine skp (no1u (j := 10) (t := 493) rfl (by kernel_rfl) rfl rfl) rfl ?_
     refine skp (no1u (j := 10) (t := 493) rfl (by kernel_rfl) rfl rfl) rfl ?_
     refine skp (no1u (j := 10) (t := 493) rfl (by kernel_rfl) rfl rfl) rfl ?_
     refine skp (no1 (j := 7) (t := 490) rfl (by kernel_rfl) rfl (Eq.trans rfl (vb c125)) rfl) rfl ?_
     refine pk_ (b := false) (v := .bool false) rfl rfl rfl rfl rfl (go1 (j := 3) (t := 486) rfl (by kernel_rfl) rfl rfl) (Eq.trans rfl (vb c125)) rfl ?_
     refine wpList_nil ?_
     exact then_n ⟨_, rfl, (Same.put (Same.put (Same.put (Same.put (Same.put (Same.put (Same.put (Same.put (Same.put (Same.put (Same.refl _ _) rfl) rfl) rfl) rfl) rfl) rfl) rfl) rfl) rfl) rfl), (Eq.trans rfl (vb (Option.some.inj h))), rfl, (Below.refl _ _)⟩
   clear e124; rintro g124 w124 ⟨S124, x124_500, x124_486, bb124⟩
   refine pk_ (b := false) (v := .bool false) rfl rfl rfl rfl rfl (go0 rfl) x124_486 x124_500 ?_
   refine m0 (.bool false) rfl rfl rfl rfl rfl ?_
   refine mv_ (v := .bool r121_2) rfl rfl rfl (go1 (j := 19) (t := 502) rfl (by kernel_rfl) rfl rfl) (Eq.trans (S124 61 rfl) rfl) ?_
   refine mv_ (v := .bool r121_2) rfl rfl rfl (go1 (j := 19) (t := 502) rfl (by kernel_rfl) rfl rfl) rfl ?_
   obtain ⟨d130, e130, h⟩ := bind_ h
   refine cut_ 4 (fun f g w' => Same 66 f g ∧ g 508 = .bool d130 ∧ g 502 = .bool false ∧ Below w124.heap.size w124 w') ?_ ?_
   · clear h; have h := e130; clear e130
     rcases ifs h with ⟨c131, h⟩ | ⟨c131, h⟩
     · refine mv_ (v := .int .i64 r121_1) rfl rfl rfl (go1 (j := 21) (t := 504) rfl (by kernel_rfl) rfl (Eq.trans rfl (vb c131))) (Eq.trans (S124 60 rfl) rfl) ?_
       refine mv_ (v := .int .i64 a45) rfl rfl rfl (go1 (j := 21) (t := 504) rfl (by kernel_rfl) rfl (Eq.trans rfl (vb c131))) (Eq.trans (S124 45 rfl) h45) ?_
       refine bi_ (v := .bool (decide (r121_1 ≤ a45))) rfl rfl rfl rfl (go1 (j := 21) (t := 504) rfl (by kernel_rfl) rfl (Eq.trans rfl (vb c131))) rfl rfl (i_leq rfl) ?_
       refine pk_ (b := true) (v := .bool (decide (r121_1 ≤ a45))) rfl rfl rfl rfl rfl (go1 (j := 19) (t := 502) rfl (by kernel_rfl) rfl rfl) (Eq.trans rfl (vb c131)) rfl ?_
       refine wpList_nil ?_
       exact then_n ⟨_, rfl, (Same.put (Same.put (Same.put (Same.put (Same.refl _ _) rfl) rfl) rfl) rfl), (Eq.trans rfl (vb (Option.some.inj h))), rfl, (Below.refl _ _)⟩
     refine skp (no1 (j := 21) (t := 504) rfl (by kernel_rfl) rfl (Eq.trans rfl (vb c131)) rfl) rfl ?_
     refine skp (no1 (j := 21) (t := 504) rfl (by kernel_rfl) rfl (Eq.trans rfl (vb c131)) rfl) rfl ?_
     refine skp (no1 (j := 21) (t := 504) rfl (by kernel_rfl) rfl (Eq.trans rfl (vb c131)) rfl) rfl ?_
     refine pk_ (b := false) (v := .bool false) rfl rfl rfl rfl rfl (go1 (j := 19) (t := 502) rfl (by kernel_rfl) rfl rfl) (Eq.trans rfl (vb c131)) rfl ?_
     refine wpList_nil ?_
     exact then_n ⟨_, rfl, (Same.put (Same.put (Same.put (Same.put (Same.refl _ _) rfl) rfl) rfl) rfl), (Eq.trans rfl (vb (Option.some.inj h))), rfl, (Below.refl _ _)⟩
   clear e130; rintro g130 w130 ⟨S130, x130_508, x130_502, bb130⟩
   refine mv_ (v := .bool d130) rfl rfl rfl (go1 (j := 19) (t := 502) rfl (by kernel_rfl) rfl x130_502) x130_508 ?_
   obtain ⟨d132, e132, h⟩ := bind_ h
   replace h := ifn h
   obtain ⟨y132, h⟩ := h
   subst y132
   refine cut_ 4 (fun f g w' => Same 66 f g ∧ g 513 = .bool false ∧ g 502 = .bool false ∧ Below w130.heap.size w130 w') ?_ ?_
   · clear h; have h := e132; clear e132
     rcases ifs h with ⟨c133, h⟩ | ⟨c133, h⟩
     · refine mv_ (v := .slice A46 l46.length k46) rfl rfl rfl (go1 (j := 26) (t := 509) rfl (by kernel_rfl) rfl (Eq.trans rfl (vb c133))) (Eq.trans (S130 46 rfl) (Eq.trans (S124 46 rfl) h46)) ?_
       refine ln_ laws_FnChangeGiven.u24 rfl rfl rfl (go1 (j := 26) (t := 509) rfl (by kernel_rfl) rfl (Eq.trans rfl (vb c133))) rfl ?_
       refine bi_ (v := .bool (((l46.length : Int) == 0))) rfl rfl rfl rfl (go1 (j := 26) (t := 509) rfl (by kernel_rfl) rfl (Eq.trans rfl (vb c133))) rfl rfl (i_eql rfl) ?_
       refine pk_ (b := true) (v := .bool ((l46.length : Int) == 0)) rfl rfl rfl rfl rfl (go1 (j := 19) (t := 502) rfl (by kernel_rfl) rfl x130_502) (Eq.trans rfl (vb c133)) rfl ?_
       refine wpList_nil ?_
       exact then_n ⟨_, rfl, (Same.put (Same.put (Same.put (Same.put (Same.refl _ _) rfl) rfl) rfl) rfl), (Eq.trans rfl (vb (Option.some.inj h))), x130_502, (Below.refl _ _)⟩
     refine skp (no1 (j := 26) (t := 509) rfl (by kernel_rfl) rfl (Eq.trans rfl (vb c133)) rfl) rfl ?_
     refine skp (no1 (j := 26) (t := 509) rfl (by kernel_rfl) rfl (Eq.trans rfl (vb c133)) rfl) rfl ?_
     refine skp (no1 (j := 26) (t := 509) rfl (by kernel_rfl) rfl (Eq.trans rfl (vb c133)) rfl) rfl ?_
     refine pk_ (b := false) (v := .bool false) rfl rfl rfl rfl rfl (go1 (j := 19) (t := 502) rfl (by kernel_rfl) rfl x130_502) (Eq.trans rfl (vb c133)) rfl ?_
     refine wpList_nil ?_
     exact then_n ⟨_, rfl, (Same.put (Same.put (Same.put (Same.put (Same.refl _ _) rfl) rfl) rfl) rfl), (Eq.trans rfl (vb (Option.some.inj h))), x130_502, (Below.refl _ _)⟩
   clear e132; rintro g132 w132 ⟨S132, x132_513, x132_502, bb132⟩
   refine pk_ (b := false) (v := .bool false) rfl rfl rfl rfl rfl (go0 rfl) x132_502 x132_513 ?_
   refine nilt ?_
   refine cF ?_ rfl rfl
   refine wp_skip ?_
   refine then_n ?_
   exact laws_FnChangeGiven.w134 k r ws _ _ A44 k44 l44 (Eq.trans (S132 44 rfl) (Eq.trans (S130 44 rfl) (Eq.trans (S124 44 rfl) h44))) q44 (On.adv C44 (below_step (below_step (below_step (below_step bb121 bb122) bb124) bb130) bb132)) a45 (Eq.trans (S132 45 rfl) (Eq.trans (S130 45 rfl) (Eq.trans (S124 45 rfl) h45))) a50 (Eq.trans (S132 50 rfl) (Eq.trans (S130 50 rfl) (Eq.trans (S124 50 rfl) h50))) a51 (Eq.trans (S132 51 rfl) (Eq.trans (S130 51 rfl) (Eq.trans (S124 51 rfl) h51))) b52 (Eq.trans (S132 52 rfl) (Eq.trans (S130 52 rfl) (Eq.trans (S124 52 rfl) h52))) (below_step B0 (below_step (below_step (below_step (below_step bb121 bb122) bb124) bb130) bb132)) h
 refine cF ?_ (Eq.trans rfl (vb c120)) rfl
 refine wp_skip ?_
 refine then_n ?_
 exact laws_FnChangeGiven.w134 k r ws _ _ A44 k44 l44 h44 q44 C44 a45 h45 a50 h50 a51 h51 b52 h52 B0 h
def laws_FnChangeGiven.p90 (k : Nat) (l35 : List Int) (a36 : Int) (b37 : Bool) (a38 : Int) (b39 : Bool) (b40 : Bool) (b41 : Bool) (b42 : Bool) (b43 : Bool) (l44 : List Int) (a45 : Int) (l46 : List Int) (b47 : Bool) (l48 : List Int) (b49 : Bool) : Option Bool := (impl_MeanCoins.f k l44 a45).bind fun t91 => (spec_MeanCoins.f k l44 a45).bind fun t92 => if (b37 != b39) = true then none else if (a36 != a38) = true then none else if (b41 != b43) = true then none else if (b40 != b42) = true then none else (impl_AreCoins.f k l35).bind fun r97_0 => if (b41 != r97_0) = true then none else (if b41 = true then (some (!b40)) else (some false)).bind fun d99 => if (b37 != d99) = true then none else if (b47 != b49) = true then none else (laws_tSame.f k l46 l48).bind fun r103_0 => if (!r103_0) = true then none else if (t91.2.2 != t92.2.2) = true then none else if (t91.1 != t92.1) = true then none else if (t91.2.1 != t92.2.1) = true then none else (if t91.2.2 = true then (some (!b47)) else (some false)).bind fun d108 => if d108 = true then none else if b37 = true then ((impl_FewestCoins.f k l35 a36).bind fun t111 => (impl_GreedyCount.f k l35 a36).bind fun t112 => (if (decide (a36 ≤ 20000)) = true then ((if (!t111.2) = true then (some true) else ((if t112.2 = true then (some (decide (t112.1 ≤ t111.1))) else (some false)).bind fun d117 => some d117)).bind fun d115 => some d115) else (some false)).bind fun d113 => if d113 = true then none else laws_FnChangeGiven.p119 k l44 a45 l46 b47 t91.1 t91.2.1 t91.2.2) else (laws_FnChangeGiven.p119 k l44 a45 l46 b47 t91.1 t91.2.1 t91.2.2)
theorem laws_FnChangeGiven.w90 (k : Nat) (r : Bool) (ws : World) (f0 : Nat → Value) (w0 : World) (A35 : Option Addr) (k35 : Nat) (l35 : List Int) (h35 : f0 35 = .slice A35 l35.length k35) (q35 : l35.length ≤ k35) (C35 : On w0 fun x => Kd.C (Kd.int .i64) x A35 l35.length l35) (a36 : Int) (h36 : f0 36 = .int .i64 a36) (b37 : Bool) (h37 : f0 37 = .bool b37) (a38 : Int) (h38 : f0 38 = .int .i64 a38) (b39 : Bool) (h39 : f0 39 = .bool b39) (b40 : Bool) (h40 : f0 40 = .bool b40) (b41 : Bool) (h41 : f0 41 = .bool b41) (b42 : Bool) (h42 : f0 42 = .bool b42) (b43 : Bool) (h43 : f0 43 = .bool b43) (A44 : Option Addr) (k44 : Nat) (l44 : List Int) (h44 : f0 44 = .slice A44 l44.length k44) (q44 : l44.length ≤ k44) (C44 : On w0 fun x => Kd.C (Kd.int .i64) x A44 l44.length l44) (a45 : Int) (h45 : f0 45 = .int .i64 a45) (A46 : Option Addr) (k46 : Nat) (l46 : List Int) (h46 : f0 46 = .slice A46 l46.length k46) (q46 : l46.length ≤ k46) (C46 : On w0 fun x => Kd.C (Kd.int .i64) x A46 l46.length l46) (b47 : Bool) (h47 : f0 47 = .bool b47) (A48 : Option Addr) (k48 : Nat) (l48 : List Int) (h48 : f0 48 = .slice A48 l48.length k48) (q48 : l48.length ≤ k48) (C48 : On w0 fun x => Kd.C (Kd.int .i64) x A48 l48.length l48) (b49 : Bool) (h49 : f0 49 = .bool b49) (B0 : Below ws.heap.size ws w0) (h : laws_FnChangeGiven.p90 k l35 a36 b37 a38 b39 b40 b41 b42 b43 l44 a45 l46 b47 l48 b49 = some r) : Code.wp Try.prog (srn 23 laws_FnChangeGiven.B) (laws_FnChangeGiven.Q0 ws r) (fr 543 f0) w0 := by
 unfold laws_FnChangeGiven.p90 at h
 refine wp_seq ?_
 refine wp_region_lit ?_
 refine m0 (.slice A44 l44.length k44) rfl rfl rfl rfl h44 ?_
 refine m0 (.int .i64 a45) rfl rfl rfl rfl h45 ?_
 obtain ⟨⟨r91_1, r91_2, r91_3⟩, e91, h⟩ := bind_ h
 refine cl_ Try.func32 (by kernel_rfl) rfl rfl rfl rfl (go0 rfl) (argc (v := .slice A44 l44.length k44) rfl (argc (v := .int .i64 a45) rfl argn)) ?_
 refine (impl_MeanCoins.calls k A44 k44 l44 a45 _ _ _ _ (C44 _ (Below.refl _ _)) q44 e91).mono ?_
 rintro e w91 ⟨rfl, bb91⟩
 refine ⟨_, rfl, ?_⟩
 refine m0 (.tuple #[.int .i64 r91_1, .int .i64 r91_2, .bool r91_3]) rfl rfl rfl rfl rfl ?_
 refine x0 (.int .i64 r91_1) rfl rfl rfl rfl rfl rfl ?_
 refine x0 (.int .i64 r91_2) rfl rfl rfl rfl rfl rfl ?_
 refine x0 (.bool r91_3) rfl rfl rfl rfl rfl rfl ?_
 refine a0 (.int .i64 r91_1) rfl rfl rfl rfl rfl ?_
 refine a0 (.int .i64 r91_2) rfl rfl rfl rfl rfl ?_
 refine a0 (.bool r91_3) rfl rfl rfl rfl rfl ?_
 refine nilt ?_
 refine wp_seq ?_
 refine wp_region_lit ?_
 refine m0 (.slice A44 l44.length k44) rfl rfl rfl rfl h44 ?_
 refine m0 (.int .i64 a45) rfl rfl rfl rfl h45 ?_
 obtain ⟨⟨r92_1, r92_2, r92_3⟩, e92, h⟩ := bind_ h
 refine cl_ Try.func33 (by kernel_rfl) rfl rfl rfl rfl (go0 rfl) (argc (v := .slice A44 l44.length k44) rfl (argc (v := .int .i64 a45) rfl argn)) ?_
 refine (spec_MeanCoins.calls k A44 k44 l44 a45 _ _ _ _ (C44 _ bb91) q44 e92).mono ?_
 rintro e w92 ⟨rfl, bb92⟩
 refine ⟨_, rfl, ?_⟩
 refine m0 (.tuple #[.int .i64 r92_1, .int .i64 r92_2, .bool r92_3]) rfl rfl rfl rfl rfl ?_
 refine x0 (.int .i64 r92_1) rfl rfl rfl rfl rfl rfl ?_
 refine x0 (.int .i64 r92_2) rfl rfl rfl rfl rfl rfl ?_
 refine x0 (.bool r92_3) rfl rfl rfl rfl rfl rfl ?_
 refine a0 (.int .i64 r92_1) rfl rfl rfl rfl rfl ?_
 refine a0 (.int .i64 r92_2) rfl rfl rfl rfl rfl ?_
 refine a0 (.bool r92_3) rfl rfl rfl rfl rfl ?_
 refine nilt ?_
 refine wp_seq ?_
 refine wp_seq ?_
 refine wp_region_lit ?_
 refine m0 (.bool b37) rfl rfl rfl rfl h37 ?_
 refine m0 (.bool b39) rfl rfl rfl rfl h39 ?_
 obtain ⟨c93, h⟩ := ifn h
 refine bb_ (v := .bool (false)) rfl rfl rfl rfl (go0 rfl) rfl rfl (b_neq laws_FnChangeGiven.u4 c93) ?_
 refine m0 (.bool false) rfl rfl rfl rfl rfl ?_
 refine mv_ (v := .int .i64 a36) rfl rfl rfl (go1 (j := 3) (t := 387) rfl (by kernel_rfl) rfl rfl) h36 ?_
 refine mv_ (v := .int .i64 a38) rfl rfl rfl (go1 (j := 3) (t := 387) rfl (by kernel_rfl) rfl rfl) h38 ?_
 obtain ⟨c94, h⟩ := ifn h
 refine bi_ (v := .bool (false)) rfl rfl rfl rfl (go1 (j := 3) (t := 387) rfl (by kernel_rfl) rfl rfl) rfl rfl (i_neq c94) ?_
 refine pk_ (b := false) (v := .bool false) rfl rfl rfl rfl rfl (go0 rfl) rfl rfl ?_
 refine m0 (.bool false) rfl rfl rfl rfl rfl ?_
 refine mv_ (v := .bool b41) rfl rfl rfl (go1 (j := 8) (t := 392) rfl (by kernel_rfl) rfl rfl) h41 ?_
 refine mv_ (v := .bool b43) rfl rfl rfl (go1 (j := 8) (t := 392) rfl (by kernel_rfl) rfl rfl) h43 ?_
 obtain ⟨c95, h⟩ := ifn h
 refine bb_ (v := .bool (false)) rfl rfl rfl rfl (go1 (j := 8) (t := 392) rfl (by kernel_rfl) rfl rfl) rfl rfl (b_neq laws_FnChangeGiven.u4 c95) ?_
 refine pk_ (b := false) (v := .bool false) rfl rfl rfl rfl rfl (go0 rfl) rfl rfl ?_
 refine m0 (.bool false) rfl rfl rfl rfl rfl ?_
 refine mv_ (v := .bool b40) rfl rfl rfl (go1 (j := 13) (t := 397) rfl (by kernel_rfl) rfl rfl) h40 ?_
 refine mv_ (v := .bool b42) rfl rfl rfl (go1 (j := 13) (t := 397) rfl (by kernel_rfl) rfl rfl) h42 ?_
 obtain ⟨c96, h⟩ := ifn h
 refine bb_ (v := .bool (false)) rfl rfl rfl rfl (go1 (j := 13) (t := 397) rfl (by kernel_rfl) rfl rfl) rfl rfl (b_neq laws_FnChangeGiven.u4 c96) ?_
 refine pk_ (b := false) (v := .bool false) rfl rfl rfl rfl rfl (go0 rfl) rfl rfl ?_
 refine m0 (.bool false) rfl rfl rfl rfl rfl ?_
 refine mv_ (v := .bool b41) rfl rfl rfl (go1 (j := 18) (t := 402) rfl (by kernel_rfl) rfl rfl) h41 ?_
 refine mv_ (v := .slice A35 l35.length k35) rfl rfl rfl (go1 (j := 18) (t := 402) rfl (by kernel_rfl) rfl rfl) h35 ?_
 obtain ⟨r97_0, e97, h⟩ := bind_ h
 refine cl_ Try.func20 (by kernel_rfl) rfl rfl rfl rfl (go1 (j := 18) (t := 402) rfl (by kernel_rfl) rfl rfl) (argc (v := .slice A35 l35.length k35) rfl argn) ?_
 refine (impl_AreCoins.calls k A35 k35 l35 _ _ (C35 _ (below_step bb91 bb92)) q35 e97).mono ?_
 rintro e w97 ⟨rfl, bb97⟩
 refine ⟨_, rfl, ?_⟩
 obtain ⟨c98, h⟩ := ifn h
 refine bb_ (v := .bool (false)) rfl rfl rfl rfl (go1 (j := 18) (t := 402) rfl (by kernel_rfl) rfl rfl) rfl rfl (b_neq laws_FnChangeGiven.u4 c98) ?_
 refine pk_ (b := false) (v := .bool false) rfl rfl rfl rfl rfl (go0 rfl) rfl rfl ?_
 refine m0 (.bool false) rfl rfl rfl rfl rfl ?_
 refine mv_ (v := .bool b37) rfl rfl rfl (go1 (j := 24) (t := 408) rfl (by kernel_rfl) rfl rfl) h37 ?_
 refine mv_ (v := .bool b41) rfl rfl rfl (go1 (j := 24) (t := 408) rfl (by kernel_rfl) rfl rfl) h41 ?_
 refine mv_ (v := .bool b41) rfl rfl rfl (go1 (j := 24) (t := 408) rfl (by kernel_rfl) rfl rfl) rfl ?_
 obtain ⟨d99, e99, h⟩ := bind_ h
 refine cut_ 3 (fun f g w' => Same 66 f g ∧ g 414 = .bool d99 ∧ g 408 = .bool false ∧ g 409 = .bool b37 ∧ Below w97.heap.size w97 w') ?_ ?_
 · clear h; have h := e99; clear e99
   rcases ifs h with ⟨c100, h⟩ | ⟨c100, h⟩
   · refine mv_ (v := .bool b40) rfl rfl rfl (go1 (j := 27) (t := 411) rfl (by kernel_rfl) rfl (Eq.trans rfl (vb c100))) h40 ?_
     refine nt_ (c := !b40) rfl rfl rfl (go1 (j := 27) (t := 411) rfl (by kernel_rfl) rfl (Eq.trans rfl (vb c100))) rfl rfl ?_
     refine pk_ (b := true) (v := .bool (!b40)) rfl rfl rfl rfl rfl (go1 (j := 24) (t := 408) rfl (by kernel_rfl) rfl rfl) (Eq.trans rfl (vb c100)) rfl ?_
     refine wpList_nil ?_
     exact then_n ⟨_, rfl, (Same.put (Same.put (Same.put (Same.refl _ _) rfl) rfl) rfl), (Eq.trans rfl (vb (Option.some.inj h))), rfl, rfl, (Below.refl _ _)⟩
   refine skp (no1 (j := 27) (t := 411) rfl (by kernel_rfl) rfl (Eq.trans rfl (vb c100)) rfl) rfl ?_
   refine skp (no1 (j := 27) (t := 411) rfl (by kernel_rfl) rfl (Eq.trans rfl (vb c100)) rfl) rfl ?_
   refine pk_ (b := false) (v := .bool false) rfl rfl rfl rfl rfl (go1 (j := 24) (t := 408) rfl (by kernel_rfl) rfl rfl) (Eq.trans rfl (vb c100)) rfl ?_
   refine wpList_nil ?_
   exact then_n ⟨_, rfl, (Same.put (Same.put (Same.put (Same.refl _ _) rfl) rfl) rfl), (Eq.trans rfl (vb (Option.some.inj h))), rfl, rfl, (Below.refl _ _)⟩
 clear e99; rintro g99 w99 ⟨S99, x99_414, x99_408, x99_409, bb99⟩
 obtain ⟨c101, h⟩ := ifn h
 refine bb_ (v := .bool (false)) rfl rfl rfl rfl (go1 (j := 24) (t := 408) rfl (by kernel_rfl) rfl x99_408) x99_409 x99_414 (b_neq laws_FnChangeGiven.u4 c101) ?_
 refine pk_ (b := false) (v := .bool false) rfl rfl rfl rfl rfl (go0 rfl) x99_408 rfl ?_
 refine m0 (.bool false) rfl rfl rfl rfl rfl ?_
 refine mv_ (v := .bool b47) rfl rfl rfl (go1 (j := 33) (t := 417) rfl (by kernel_rfl) rfl rfl) (Eq.trans (S99 47 rfl) h47) ?_
 refine mv_ (v := .bool b49) rfl rfl rfl (go1 (j := 33) (t := 417) rfl (by kernel_rfl) rfl rfl) (Eq.trans (S99 49 rfl) h49) ?_
 obtain ⟨c102, h⟩ := ifn h
 refine bb_ (v := .bool (false)) rfl rfl rfl rfl (go1 (j := 33) (t := 417) rfl (by kernel_rfl) rfl rfl) rfl rfl (b_neq laws_FnChangeGiven.u4 c102) ?_
 refine pk_ (b := false) (v := .bool false) rfl rfl rfl rfl rfl (go0 rfl) rfl rfl ?_
 refine m0 (.bool false) rfl rfl rfl rfl rfl ?_
 refine mv_ (v := .slice A46 l46.length k46) rfl rfl rfl (go1 (j := 38) (t := 422) rfl (by kernel_rfl) rfl rfl) (Eq.trans (S99 46 rfl) h46) ?_
 refine mv_ (v := .slice A48 l48.length k48) rfl rfl rfl (go1 (j := 38) (t := 422) rfl (by kernel_rfl) rfl rfl) (Eq.trans (S99 48 rfl) h48) ?_
 obtain ⟨r103_0, e103, h⟩ := bind_ h
 refine cl_ Try.func19 (by kernel_rfl) rfl rfl rfl rfl (go1 (j := 38) (t := 422) rfl (by kernel_rfl) rfl rfl) (argc (v := .slice A46 l46.length k46) rfl (argc (v := .slice A48 l48.length k48) rfl argn)) ?_
 refine (laws_tSame.calls k A46 k46 l46 A48 k48 l48 _ _ (C46 _ (below_step (below_step (below_step bb91 bb92) bb97) bb99)) q46 (C48 _ (below_step (below_step (below_step bb91 bb92) bb97) bb99)) q48 e103).mono ?_
 rintro e w103 ⟨rfl, d103⟩
 have bb103 := Drawn0.below d103
 refine ⟨_, rfl, ?_⟩
 obtain ⟨c104, h⟩ := ifn h
 refine nt_ (c := false) rfl rfl rfl (go1 (j := 38) (t := 422) rfl (by kernel_rfl) rfl rfl) rfl c104 ?_
 refine pk_ (b := false) (v := .bool false) rfl rfl rfl rfl rfl (go0 rfl) rfl rfl ?_
 refine m0 (.bool false) rfl rfl rfl rfl rfl ?_
 refine mv_ (v := .bool r91_3) rfl rfl rfl (go1 (j := 44) (t := 428) rfl (by kernel_rfl) rfl rfl) (Eq.trans (S99 52 rfl) rfl) ?_
 refine mv_ (v := .bool r92_3) rfl rfl rfl (go1 (j := 44) (t := 428) rfl (by kernel_rfl) rfl rfl) (Eq.trans (S99 55 rfl) rfl) ?_
 obtain ⟨c105, h⟩ := ifn h
 refine bb_ (v := .bool (false)) rfl rfl rfl rfl (go1 (j := 44) (t := 428) rfl (by kernel_rfl) rfl rfl) rfl rfl (b_neq laws_FnChangeGiven.u4 c105) ?_
 refine pk_ (b := false) (v := .bool false) rfl rfl rfl rfl rfl (go0 rfl) rfl rfl ?_
 refine m0 (.bool false) rfl rfl rfl rfl rfl ?_
 refine mv_ (v := .int .i64 r91_1) rfl rfl rfl (go1 (j := 49) (t := 433) rfl (by kernel_rfl) rfl rfl) (Eq.trans (S99 50 rfl) rfl) ?_
 refine mv_ (v := .int .i64 r92_1) rfl rfl rfl (go1 (j := 49) (t := 433) rfl (by kernel_rfl) rfl rfl) (Eq.trans (S99 53 rfl) rfl) ?_
 obtain ⟨c106, h⟩ := ifn h
 refine bi_ (v := .bool (false)) rfl rfl rfl rfl (go1 (j := 49) (t := 433) rfl (by kernel_rfl) rfl rfl) rfl rfl (i_neq c106) ?_
 refine pk_ (b := false) (v := .bool false) rfl rfl rfl rfl rfl (go0 rfl) rfl rfl ?_
 refine m0 (.bool false) rfl rfl rfl rfl rfl ?_
 refine mv_ (v := .int .i64 r91_2) rfl rfl rfl (go1 (j := 54) (t := 438) rfl (by kernel_rfl) rfl rfl) (Eq.trans (S99 51 rfl) rfl) ?_
 refine mv_ (v := .int .i64 r92_2) rfl rfl rfl (go1 (j := 54) (t := 438) rfl (by kernel_rfl) rfl rfl) (Eq.trans (S99 54 rfl) rfl) ?_
 obtain ⟨c107, h⟩ := ifn h
 refine bi_ (v := .bool (false)) rfl rfl rfl rfl (go1 (j := 54) (t := 438) rfl (by kernel_rfl) rfl rfl) rfl rfl (i_neq c107) ?_
 refine pk_ (b := false) (v := .bool false) rfl rfl rfl rfl rfl (go0 rfl) rfl rfl ?_
 refine m0 (.bool false) rfl rfl rfl rfl rfl ?_
 refine mv_ (v := .bool r91_3) rfl rfl rfl (go1 (j := 59) (t := 443) rfl (by kernel_rfl) rfl rfl) (Eq.trans (S99 52 rfl) rfl) ?_
 refine mv_ (v := .bool r91_3) rfl rfl rfl (go1 (j := 59) (t := 443) rfl (by kernel_rfl) rfl rfl) rfl ?_
 obtain ⟨d108, e108, h⟩ := bind_ h
 replace h := ifn h
 obtain ⟨y108, h⟩ := h
 subst y108
 refine cut_ 3 (fun f g w' => Same 66 f g ∧ g 448 = .bool false ∧ g 443 = .bool false ∧ Below w103.heap.size w103 w') ?_ ?_
 · clear h; have h := e108; clear e108
   rcases ifs h with ⟨c109, h⟩ | ⟨c109, h⟩
   · refine mv_ (v := .bool b47) rfl rfl rfl (go1 (j := 61) (t := 445) rfl (by kernel_rfl) rfl (Eq.trans rfl (vb c109))) (Eq.trans (S99 47 rfl) h47) ?_
     refine nt_ (c := !b47) rfl rfl rfl (go1 (j := 61) (t := 445) rfl (by kernel_rfl) rfl (Eq.trans rfl (vb c109))) rfl rfl ?_
     refine pk_ (b := true) (v := .bool (!b47)) rfl rfl rfl rfl rfl (go1 (j := 59) (t := 443) rfl (by kernel_rfl) rfl rfl) (Eq.trans rfl (vb c109)) rfl ?_
     refine wpList_nil ?_
     exact then_n ⟨_, rfl, (Same.put (Same.put (Same.put (Same.refl _ _) rfl) rfl) rfl), (Eq.trans rfl (vb (Option.some.inj h))), rfl, (Below.refl _ _)⟩
   refine skp (no1 (j := 61) (t := 445) rfl (by kernel_rfl) rfl (Eq.trans rfl (vb c109)) rfl) rfl ?_
   refine skp (no1 (j := 61) (t := 445) rfl (by kernel_rfl) rfl (Eq.trans rfl (vb c109)) rfl) rfl ?_
   refine pk_ (b := false) (v := .bool false) rfl rfl rfl rfl rfl (go1 (j := 59) (t := 443) rfl (by kernel_rfl) rfl rfl) (Eq.trans rfl (vb c109)) rfl ?_
   refine wpList_nil ?_
   exact then_n ⟨_, rfl, (Same.put (Same.put (Same.put (Same.refl _ _) rfl) rfl) rfl), (Eq.trans rfl (vb (Option.some.inj h))), rfl, (Below.refl _ _)⟩
 clear e108; rintro g108 w108 ⟨S108, x108_448, x108_443, bb108⟩
 refine pk_ (b := false) (v := .bool false) rfl rfl rfl rfl rfl (go0 rfl) x108_443 x108_448 ?_
 refine nilt ?_
 refine cF ?_ rfl rfl
 refine wp_skip ?_
 refine then_n ?_
 refine wp_seq ?_
 refine wp_seq ?_
 refine wp_region_lit ?_
 refine m0 (.bool b37) rfl rfl rfl rfl (Eq.trans (S108 37 rfl) (Eq.trans (S99 37 rfl) h37)) ?_
 refine nilt ?_
 rcases ifs h with ⟨c110, h⟩ | ⟨c110, h⟩
 · refine cT ?_ (Eq.trans rfl (vb c110)) rfl
   refine wp_seq ?_
   refine wp_region_lit ?_
   refine m0 (.slice A35 l35.length k35) rfl rfl rfl rfl (Eq.trans (S108 35 rfl) (Eq.trans (S99 35 rfl) h35)) ?_
   refine m0 (.int .i64 a36) rfl rfl rfl rfl (Eq.trans (S108 36 rfl) (Eq.trans (S99 36 rfl) h36)) ?_
   obtain ⟨⟨r111_1, r111_2⟩, e111, h⟩ := bind_ h
   refine cl_ Try.func11 (by kernel_rfl) rfl rfl rfl rfl (go0 rfl) (argc (v := .slice A35 l35.length k35) rfl (argc (v := .int .i64 a36) rfl argn)) ?_
   refine (impl_FewestCoins.calls k A35 k35 l35 a36 _ _ _ (C35 _ (below_step (below_step (below_step (below_step (below_step bb91 bb92) bb97) bb99) bb103) bb108)) q35 e111).mono ?_
   rintro e w111 ⟨rfl, bb111⟩
   refine ⟨_, rfl, ?_⟩
   refine m0 (.tuple #[.int .i64 r111_1, .bool r111_2]) rfl rfl rfl rfl rfl ?_
   refine x0 (.int .i64 r111_1) rfl rfl rfl rfl rfl rfl ?_
   refine x0 (.bool r111_2) rfl rfl rfl rfl rfl rfl ?_
   refine a0 (.int .i64 r111_1) rfl rfl rfl rfl rfl ?_
   refine a0 (.bool r111_2) rfl rfl rfl rfl rfl ?_
   refine nilt ?_
   refine wp_seq ?_
   refine wp_region_lit ?_
   refine m0 (.slice A35 l35.length k35) rfl rfl rfl rfl (Eq.trans (S108 35 rfl) (Eq.trans (S99 35 rfl) h35)) ?_
   refine m0 (.int .i64 a36) rfl rfl rfl rfl (Eq.trans (S108 36 rfl) (Eq.trans (S99 36 rfl) h36)) ?_
   obtain ⟨⟨r112_1, r112_2⟩, e112, h⟩ := bind_ h
   refine cl_ Try.func15 (by kernel_rfl) rfl rfl rfl rfl (go0 rfl) (argc (v := .slice A35 l35.length k35) rfl (argc (v := .int .i64 a36) rfl argn)) ?_
   refine (impl_GreedyCount.calls k A35 k35 l35 a36 _ _ _ (C35 _ (below_step (below_step (below_step (below_step (below_step (below_step bb91 bb92) bb97) bb99) bb103) bb108) bb111)) q35 e112).mono ?_
   rintro e w112 ⟨rfl, bb112⟩
   refine ⟨_, rfl, ?_⟩
   refine m0 (.tuple #[.int .i64 r112_1, .bool r112_2]) rfl rfl rfl rfl rfl ?_
   refine x0 (.int .i64 r112_1) rfl rfl rfl rfl rfl rfl ?_
   refine x0 (.bool r112_2) rfl rfl rfl rfl rfl rfl ?_
   refine a0 (.int .i64 r112_1) rfl rfl rfl rfl rfl ?_
   refine a0 (.bool r112_2) rfl rfl rfl rfl rfl ?_
   refine nilt ?_
   refine wp_seq ?_
   refine wp_region_lit ?_
   refine m0 (.int .i64 a36) rfl rfl rfl rfl (Eq.trans (S108 36 rfl) (Eq.trans (S99 36 rfl) h36)) ?_
   refine bi_ (v := .bool (decide (a36 ≤ 20000))) rfl rfl rfl rfl (go0 rfl) rfl rfl (i_leq rfl) ?_
   refine m0 (.bool (decide (a36 ≤ 20000))) rfl rfl rfl rfl rfl ?_
   obtain ⟨d113, e113, h⟩ := bind_ h
   replace h := ifn h
   obtain ⟨y113, h⟩ := h
   subst y113
   refine cut_ 11 (fun f g w' => Same 66 f g ∧ g 476 = .bool false ∧ Below w112.heap.size w112 w') ?_ ?_
   · clear h; have h := e113; clear e113
     rcases ifs h with ⟨c114, h⟩ | ⟨c114, h⟩
     · refine mv_ (v := .bool r111_2) rfl rfl rfl (go1 (j := 2) (t := 465) rfl (by kernel_rfl) rfl (Eq.trans rfl (vb c114))) rfl ?_
       refine nt_ (c := !r111_2) rfl rfl rfl (go1 (j := 2) (t := 465) rfl (by kernel_rfl) rfl (Eq.trans rfl (vb c114))) rfl rfl ?_
       refine mv_ (v := .bool (!r111_2)) rfl rfl rfl (go1 (j := 2) (t := 465) rfl (by kernel_rfl) rfl (Eq.trans rfl (vb c114))) rfl ?_
       obtain ⟨d115, e115, h⟩ := bind_ h
       refine cut_ 7 (fun f g w' => Same 66 f g ∧ g 475 = .bool d115 ∧ g 465 = .bool true ∧ Below w112.heap.size w112 w') ?_ ?_
       · clear h; have h := e115; clear e115
         rcases ifs h with ⟨c116, h⟩ | ⟨c116, h⟩
         · refine skp (no1 (j := 5) (t := 468) rfl (by kernel_rfl) rfl (Eq.trans rfl (vb c116)) rfl) rfl ?_
           refine skp (no1 (j := 5) (t := 468) rfl (by kernel_rfl) rfl (Eq.trans rfl (vb c116)) rfl) rfl ?_
           refine skp (no1u (j := 7) (t := 470) rfl (by kernel_rfl) rfl rfl) rfl ?_
           refine skp (no1u (j := 7) (t := 470) rfl (by kernel_rfl) rfl rfl) rfl ?_
           refine skp (no1u (j := 7) (t := 470) rfl (by kernel_rfl) rfl rfl) rfl ?_
           refine skp (no1 (j := 5) (t := 468) rfl (by kernel_rfl) rfl (Eq.trans rfl (vb c116)) rfl) rfl ?_
           refine pk_ (b := true) (v := .bool true) rfl rfl rfl rfl rfl (go1 (j := 2) (t := 465) rfl (by kernel_rfl) rfl (Eq.trans rfl (vb c114))) (Eq.trans rfl (vb c116)) rfl ?_
           refine wpList_nil ?_
           exact then_n ⟨_, rfl, (Same.put (Same.put (Same.put (Same.put (Same.put (Same.put (Same.put (Same.refl _ _) rfl) rfl) rfl) rfl) rfl) rfl) rfl), (Eq.trans rfl (vb (Option.some.inj h))), (Eq.trans rfl (vb c114)), (Below.refl _ _)⟩
         refine mv_ (v := .bool r112_2) rfl rfl rfl (go1 (j := 5) (t := 468) rfl (by kernel_rfl) rfl (Eq.trans rfl (vb c116))) rfl ?_
         refine mv_ (v := .bool r112_2) rfl rfl rfl (go1 (j := 5) (t := 468) rfl (by kernel_rfl) rfl (Eq.trans rfl (vb c116))) rfl ?_
         obtain ⟨d117, e117, h⟩ := bind_ h
         refine cut_ 4 (fun f g w' => Same 66 f g ∧ g 474 = .bool d117 ∧ g 465 = .bool true ∧ g 468 = .bool false ∧ Below w112.heap.size w112 w') ?_ ?_
         · clear h; have h := e117; clear e117
           rcases ifs h with ⟨c118, h⟩ | ⟨c118, h⟩
           · refine mv_ (v := .int .i64 r112_1) rfl rfl rfl (go1 (j := 7) (t := 470) rfl (by kernel_rfl) rfl (Eq.trans rfl (vb c118))) rfl ?_
             refine mv_ (v := .int .i64 r111_1) rfl rfl rfl (go1 (j := 7) (t := 470) rfl (by kernel_rfl) rfl (Eq.trans rfl (vb c118))) rfl ?_
             refine bi_ (v := .bool (decide (r112_1 ≤ r111_1))) rfl rfl rfl rfl (go1 (j := 7) (t := 470) rfl (by kernel_rfl) rfl (Eq.trans rfl (vb c118))) rfl rfl (i_leq rfl) ?_
             refine pk_ (b := true) (v := .bool (decide (r112_1 ≤ r111_1))) rfl rfl rfl rfl rfl (go1 (j := 5) (t := 468) rfl (by kernel_rfl) rfl (Eq.trans rfl (vb c116))) (Eq.trans rfl (vb c118)) rfl ?_
             refine wpList_nil ?_
             exact then_n ⟨_, rfl, (Same.put (Same.put (Same.put (Same.put (Same.refl _ _) rfl) rfl) rfl) rfl), (Eq.trans rfl (vb (Option.some.inj h))), (Eq.trans rfl (vb c114)), (Eq.trans rfl (vb c116)), (Below.refl _ _)⟩
           refine skp (no1 (j := 7) (t := 470) rfl (by kernel_rfl) rfl (Eq.trans rfl (vb c118)) rfl) rfl ?_
           refine skp (no1 (j := 7) (t := 470) rfl (by kernel_rfl) rfl (Eq.trans rfl (vb c118)) rfl) rfl ?_
           refine skp (no1 (j := 7) (t := 470) rfl (by kernel_rfl) rfl (Eq.trans rfl (vb c118)) rfl) rfl ?_
           refine pk_ (b := false) (v := .bool false) rfl rfl rfl rfl rfl (go1 (j := 5) (t := 468) rfl (by kernel_rfl) rfl (Eq.trans rfl (vb c116))) (Eq.trans rfl (vb c118)) rfl ?_
           refine wpList_nil ?_
           exact then_n ⟨_, rfl, (Same.put (Same.put (Same.put (Same.put (Same.refl _ _) rfl) rfl) rfl) rfl), (Eq.trans rfl (vb (Option.some.inj h))), (Eq.trans rfl (vb c114)), (Eq.trans rfl (vb c116)), (Below.refl _ _)⟩
         clear e117; rintro g117 w117 ⟨S117, x117_474, x117_465, x117_468, bb117⟩
         refine pk_ (b := false) (v := .bool d117) rfl rfl rfl rfl rfl (go1 (j := 2) (t := 465) rfl (by kernel_rfl) rfl x117_465) x117_468 x117_474 ?_
         refine wpList_nil ?_
         exact then_n ⟨_, rfl, (Same.put (Same.trans (Same.put (Same.put (Same.refl _ _) rfl) rfl) S117) rfl), (Eq.trans rfl (vb (Option.some.inj h))), x117_465, bb117⟩
       clear e115; rintro g115 w115 ⟨S115, x115_475, x115_465, bb115⟩
       refine pk_ (b := true) (v := .bool d115) rfl rfl rfl rfl rfl (go0 rfl) x115_465 x115_475 ?_
       refine wpList_nil ?_
       exact then_n ⟨_, rfl, (Same.put (Same.trans (Same.put (Same.put (Same.put (Same.refl _ _) rfl) rfl) rfl) S115) rfl), (Eq.trans rfl (vb (Option.some.inj h))), bb115⟩
     refine skp (no1 (j := 2) (t := 465) rfl (by kernel_rfl) rfl (Eq.trans rfl (vb c114)) rfl) rfl ?_
     refine skp (no1 (j := 2) (t := 465) rfl (by kernel_rfl) rfl (Eq.trans rfl (vb c114)) rfl) rfl ?_
     refine skp (no1 (j := 2) (t := 465) rfl (by kernel_rfl) rfl (Eq.trans rfl (vb c114)) rfl) rfl ?_
     refine skp (no1u (j := 5) (t := 468) rfl (by kernel_rfl) rfl rfl) rfl ?_
     refine skp (no1u (j := 5) (t := 468) rfl (by kernel_rfl) rfl rfl) rfl ?_
     refine skp (no1u (j := 7) (t := 470) rfl (by kernel_rfl) rfl rfl) rfl ?_
     refine skp (no1u (j := 7) (t := 470) rfl (by kernel_rfl) rfl rfl) rfl ?_
     refine skp (no1u (j := 7) (t := 470) rfl (by kernel_rfl) rfl rfl) rfl ?_
     refine skp (no1u (j := 5) (t := 468) rfl (by kernel_rfl) rfl rfl) rfl ?_
     refine skp (no1 (j := 2) (t := 465) rfl (by kernel_rfl) rfl (Eq.trans rfl (vb c114)) rfl) rfl ?_
     refine pk_ (b := false) (v := .bool false) rfl rfl rfl rfl rfl (go0 rfl) (Eq.trans rfl (vb c114)) rfl ?_
     refine wpList_nil ?_
     exact then_n ⟨_, rfl, (Same.put (Same.put (Same.put (Same.put (Same.put (Same.put (Same.put (Same.put (Same.put (Same.put (Same.put (Same.refl _ _) rfl) rfl) rfl) rfl) rfl) rfl) rfl) rfl) rfl) rfl) rfl), (Eq.trans rfl (vb (Option.some.inj h))), (Below.refl _ _)⟩
   clear e113; rintro g113 w113 ⟨S113, x113_476, bb113⟩
   refine nilt ?_
   refine cF ?_ x113_476 rfl
   refine wp_skip ?_
   refine then_n ?_
   exact laws_FnChangeGiven.w119 k r ws _ _ A44 k44 l44 (Eq.trans (S113 44 rfl) (Eq.trans (S108 44 rfl) (Eq.trans (S99 44 rfl) h44))) q44 (On.adv C44 (below_step (below_step (below_step (below_step (below_step (below_step (below_step (below_step bb91 bb92) bb97) bb99) bb103) bb108) bb111) bb112) bb113)) a45 (Eq.trans (S113 45 rfl) (Eq.trans (S108 45 rfl) (Eq.trans (S99 45 rfl) h45))) A46 k46 l46 (Eq.trans (S113 46 rfl) (Eq.trans (S108 46 rfl) (Eq.trans (S99 46 rfl) h46))) q46 (On.adv C46 (below_step (below_step (below_step (below_step (below_step (below_step (below_step (below_step bb91 bb92) bb97) bb99) bb103) bb108) bb111) bb112) bb113)) b47 (Eq.trans (S113 47 rfl) (Eq.trans (S108 47 rfl) (Eq.trans (S99 47 rfl) h47))) r91_1 (Eq.trans (S113 50 rfl) (Eq.trans (S108 50 rfl) (Eq.trans (S99 50 rfl) rfl))) r91_2 (Eq.trans (S113 51 rfl) (Eq.trans (S108 51 rfl) (Eq.trans (S99 51 rfl) rfl))) r91_3 (Eq.trans (S113 52 rfl) (Eq.trans (S108 52 rfl) (Eq.trans (S99 52 rfl) rfl))) (below_step B0 (below_step (below_step (below_step (below_step (below_step (below_step (below_step (below_step bb91 bb92) bb97) bb99) bb103) bb108) bb111) bb112) bb113)) h
 refine cF ?_ (Eq.trans rfl (vb c110)) rfl
 refine wp_skip ?_
 refine then_n ?_
 exact laws_FnChangeGiven.w119 k r ws _ _ A44 k44 l44 (Eq.trans (S108 44 rfl) (Eq.trans (S99 44 rfl) h44)) q44 (On.adv C44 (below_step (below_step (below_step (below_step (below_step bb91 bb92) bb97) bb99) bb103) bb108)) a45 (Eq.trans (S108 45 rfl) (Eq.trans (S99 45 rfl) h45)) A46 k46 l46 (Eq.trans (S108 46 rfl) (Eq.trans (S99 46 rfl) h46)) q46 (On.adv C46 (below_step (below_step (below_step (below_step (below_step bb91 bb92) bb97) bb99) bb103) bb108)) b47 (Eq.trans (S108 47 rfl) (Eq.trans (S99 47 rfl) h47)) r91_1 (Eq.trans (S108 50 rfl) (Eq.trans (S99 50 rfl) rfl)) r91_2 (Eq.trans (S108 51 rfl) (Eq.trans (S99 51 rfl) rfl)) r91_3 (Eq.trans (S108 52 rfl) (Eq.trans (S99 52 rfl) rfl)) (below_step B0 (below_step (below_step (below_step (below_step (below_step bb91 bb92) bb97) bb99) bb103) bb108)) h
def laws_FnChangeGiven.p81 (k : Nat) (l1 : List Int) : Option Bool := (spec_DrawFirstFailure.f k l1).bind fun r82_0 => (impl_FirstFailure.f k r82_0).bind fun t83 => (spec_FirstFailure.f k r82_0).bind fun t84 => (impl_IsGreedy.f k r82_0).bind fun t85 => (spec_IsGreedy.f k r82_0).bind fun t86 => (spec_DrawFailuresUpTo.f k l1).bind fun t87 => (impl_FailuresUpTo.f k t87.1 t87.2).bind fun t88 => (spec_FailuresUpTo.f k t87.1 t87.2).bind fun t89 => laws_FnChangeGiven.p90 k r82_0 t83.1 t83.2 t84.1 t84.2 t85.1 t85.2 t86.1 t86.2 t87.1 t87.2 t88.1 t88.2 t89.1 t89.2
theorem laws_FnChangeGiven.w81 (k : Nat) (r : Bool) (ws : World) (f0 : Nat → Value) (w0 : World) (A1 : Option Addr) (k1 : Nat) (l1 : List Int) (h1 : f0 1 = .slice A1 l1.length k1) (q1 : l1.length ≤ k1) (C1 : On w0 fun x => Kd.C (Kd.int .u8) x A1 l1.length l1) (B0 : Below ws.heap.size ws w0) (h : laws_FnChangeGiven.p81 k l1 = some r) : Code.wp Try.prog (srn 15 laws_FnChangeGiven.B) (laws_FnChangeGiven.Q0 ws r) (fr 543 f0) w0 := by
 unfold laws_FnChangeGiven.p81 at h
 refine wp_seq ?_
 refine wp_region_lit ?_
 refine m0 (.slice A1 l1.length k1) rfl rfl rfl rfl h1 ?_
 obtain ⟨r82_0, e82, h⟩ := bind_ h
 refine cl_ Try.func25 (by kernel_rfl) rfl rfl rfl rfl (go0 rfl) (argc (v := .slice A1 l1.length k1) rfl argn) ?_
 refine (spec_DrawFirstFailure.calls k A1 k1 l1 _ _ (C1 _ (Below.refl _ _)) q1 e82).mono ?_
 rintro e w82 ⟨u82_0, rfl, ou82_0, bb82⟩
 obtain ⟨Au82_0, ku82_0, xu82_0, qu82_0, Cu82_0⟩ := V3 ou82_0; subst xu82_0
 refine ⟨_, rfl, ?_⟩
 refine a0 (.slice Au82_0 r82_0.length ku82_0) rfl rfl rfl rfl rfl ?_
 refine nilt ?_
 refine wp_seq ?_
 refine wp_region_lit ?_
 refine m0 (.slice Au82_0 r82_0.length ku82_0) rfl rfl rfl rfl rfl ?_
 obtain ⟨⟨r83_1, r83_2⟩, e83, h⟩ := bind_ h
 refine cl_ Try.func26 (by kernel_rfl) rfl rfl rfl rfl (go0 rfl) (argc (v := .slice Au82_0 r82_0.length ku82_0) rfl argn) ?_
 refine (impl_FirstFailure.calls k Au82_0 ku82_0 r82_0 _ _ _ (Cu82_0 _ (Below.refl _ _)) qu82_0 e83).mono ?_
 rintro e w83 ⟨rfl, bb83⟩
 refine ⟨_, rfl, ?_⟩
 refine m0 (.tuple #[.int .i64 r83_1, .bool r83_2]) rfl rfl rfl rfl rfl ?_
 refine x0 (.int .i64 r83_1) rfl rfl rfl rfl rfl rfl ?_
 refine x0 (.bool r83_2) rfl rfl rfl rfl rfl rfl ?_
 refine a0 (.int .i64 r83_1) rfl rfl rfl rfl rfl ?_
 refine a0 (.bool r83_2) rfl rfl rfl rfl rfl ?_
 refine nilt ?_
 refine wp_seq ?_
 refine wp_region_lit ?_
 refine m0 (.slice Au82_0 r82_0.length ku82_0) rfl rfl rfl rfl rfl ?_
 obtain ⟨⟨r84_1, r84_2⟩, e84, h⟩ := bind_ h
 refine cl_ Try.func27 (by kernel_rfl) rfl rfl rfl rfl (go0 rfl) (argc (v := .slice Au82_0 r82_0.length ku82_0) rfl argn) ?_
 refine (spec_FirstFailure.calls k Au82_0 ku82_0 r82_0 _ _ _ (Cu82_0 _ bb83) qu82_0 e84).mono ?_
 rintro e w84 ⟨rfl, bb84⟩
 refine ⟨_, rfl, ?_⟩
 refine m0 (.tuple #[.int .i64 r84_1, .bool r84_2]) rfl rfl rfl rfl rfl ?_
 refine x0 (.int .i64 r84_1) rfl rfl rfl rfl rfl rfl ?_
 refine x0 (.bool r84_2) rfl rfl rfl rfl rfl rfl ?_
 refine a0 (.int .i64 r84_1) rfl rfl rfl rfl rfl ?_
 refine a0 (.bool r84_2) rfl rfl rfl rfl rfl ?_
 refine nilt ?_
 refine wp_seq ?_
 refine wp_region_lit ?_
 refine m0 (.slice Au82_0 r82_0.length ku82_0) rfl rfl rfl rfl rfl ?_
 obtain ⟨⟨r85_1, r85_2⟩, e85, h⟩ := bind_ h
 refine cl_ Try.func28 (by kernel_rfl) rfl rfl rfl rfl (go0 rfl) (argc (v := .slice Au82_0 r82_0.length ku82_0) rfl argn) ?_
 refine (impl_IsGreedy.calls k Au82_0 ku82_0 r82_0 _ _ _ (Cu82_0 _ (below_step bb83 bb84)) qu82_0 e85).mono ?_
 rintro e w85 ⟨rfl, bb85⟩
 refine ⟨_, rfl, ?_⟩
 refine m0 (.tuple #[.bool r85_1, .bool r85_2]) rfl rfl rfl rfl rfl ?_
 refine x0 (.bool r85_1) rfl rfl rfl rfl rfl rfl ?_
 refine x0 (.bool r85_2) rfl rfl rfl rfl rfl rfl ?_
 refine a0 (.bool r85_1) rfl rfl rfl rfl rfl ?_
 refine a0 (.bool r85_2) rfl rfl rfl rfl rfl ?_
 refine nilt ?_
 refine wp_seq ?_
 refine wp_region_lit ?_
 refine m0 (.slice Au82_0 r82_0.length ku82_0) rfl rfl rfl rfl rfl ?_
 obtain ⟨⟨r86_1, r86_2⟩, e86, h⟩ := bind_ h
 refine cl_ Try.func29 (by kernel_rfl) rfl rfl rfl rfl (go0 rfl) (argc (v := .slice Au82_0 r82_0.length ku82_0) rfl argn) ?_
 refine (spec_IsGreedy.calls k Au82_0 ku82_0 r82_0 _ _ _ (Cu82_0 _ (below_step (below_step bb83 bb84) bb85)) qu82_0 e86).mono ?_
 rintro e w86 ⟨rfl, bb86⟩
 refine ⟨_, rfl, ?_⟩
 refine m0 (.tuple #[.bool r86_1, .bool r86_2]) rfl rfl rfl rfl rfl ?_
 refine x0 (.bool r86_1) rfl rfl rfl rfl rfl rfl ?_
 refine x0 (.bool r86_2) rfl rfl rfl rfl rfl rfl ?_
 refine a0 (.bool r86_1) rfl rfl rfl rfl rfl ?_
 refine a0 (.bool r86_2) rfl rfl rfl rfl rfl ?_
 refine nilt ?_
 refine wp_seq ?_
 refine wp_region_lit ?_
 refine m0 (.slice A1 l1.length k1) rfl rfl rfl rfl h1 ?_
 obtain ⟨⟨r87_1, r87_2⟩, e87, h⟩ := bind_ h
 refine cl_ Try.func30 (by kernel_rfl) rfl rfl rfl rfl (go0 rfl) (argc (v := .slice A1 l1.length k1) rfl argn) ?_
 refine (spec_DrawFailuresUpTo.calls k A1 k1 l1 _ _ _ (C1 _ (below_step (below_step (below_step (below_step bb82 bb83) bb84) bb85) bb86)) q1 e87).mono ?_
 rintro e w87 ⟨u87_0, rfl, ou87_0, bb87⟩
 obtain ⟨Au87_0, ku87_0, xu87_0, qu87_0, Cu87_0⟩ := V3 ou87_0; subst xu87_0
 refine ⟨_, rfl, ?_⟩
 refine m0 (.tuple #[.slice Au87_0 r87_1.length ku87_0, .int .i64 r87_2]) rfl rfl rfl rfl rfl ?_
 refine x0 (.slice Au87_0 r87_1.length ku87_0) rfl rfl rfl rfl rfl rfl ?_
 refine x0 (.int .i64 r87_2) rfl rfl rfl rfl rfl rfl ?_
 refine a0 (.slice Au87_0 r87_1.length ku87_0) rfl rfl rfl rfl rfl ?_
 refine a0 (.int .i64 r87_2) rfl rfl rfl rfl rfl ?_
 refine nilt ?_
 refine wp_seq ?_
 refine wp_region_lit ?_
 refine m0 (.slice Au87_0 r87_1.length ku87_0) rfl rfl rfl rfl rfl ?_
 refine m0 (.int .i64 r87_2) rfl rfl rfl rfl rfl ?_
 obtain ⟨⟨r88_1, r88_2⟩, e88, h⟩ := bind_ h
 refine cl_ Try.func23 (by kernel_rfl) rfl rfl rfl rfl (go0 rfl) (argc (v := .slice Au87_0 r87_1.length ku87_0) rfl (argc (v := .int .i64 r87_2) rfl argn)) ?_
 refine (impl_FailuresUpTo.calls k Au87_0 ku87_0 r87_1 r87_2 _ _ _ (Cu87_0 _ (Below.refl _ _)) qu87_0 e88).mono ?_
 rintro e w88 ⟨u88_0, rfl, ou88_0, bb88⟩
 obtain ⟨Au88_0, ku88_0, xu88_0, qu88_0, Cu88_0⟩ := R3 ou88_0; subst xu88_0
 refine ⟨_, rfl, ?_⟩
 refine m0 (.tuple #[.slice Au88_0 r88_1.length ku88_0, .bool r88_2]) rfl rfl rfl rfl rfl ?_
 refine x0 (.slice Au88_0 r88_1.length ku88_0) rfl rfl rfl rfl rfl rfl ?_
 refine x0 (.bool r88_2) rfl rfl rfl rfl rfl rfl ?_
 refine a0 (.slice Au88_0 r88_1.length ku88_0) rfl rfl rfl rfl rfl ?_
 refine a0 (.bool r88_2) rfl rfl rfl rfl rfl ?_
 refine nilt ?_
 refine wp_seq ?_
 refine wp_region_lit ?_
 refine m0 (.slice Au87_0 r87_1.length ku87_0) rfl rfl rfl rfl rfl ?_
 refine m0 (.int .i64 r87_2) rfl rfl rfl rfl rfl ?_
 obtain ⟨⟨r89_1, r89_2⟩, e89, h⟩ := bind_ h
 refine cl_ Try.func31 (by kernel_rfl) rfl rfl rfl rfl (go0 rfl) (argc (v := .slice Au87_0 r87_1.length ku87_0) rfl (argc (v := .int .i64 r87_2) rfl argn)) ?_
 refine (spec_FailuresUpTo.calls k Au87_0 ku87_0 r87_1 r87_2 _ _ _ (Cu87_0 _ bb88) qu87_0 e89).mono ?_
 rintro e w89 ⟨u89_0, rfl, ou89_0, bb89⟩
 obtain ⟨Au89_0, ku89_0, xu89_0, qu89_0, Cu89_0⟩ := R3 ou89_0; subst xu89_0
 refine ⟨_, rfl, ?_⟩
 refine m0 (.tuple #[.slice Au89_0 r89_1.length ku89_0, .bool r89_2]) rfl rfl rfl rfl rfl ?_
 refine x0 (.slice Au89_0 r89_1.length ku89_0) rfl rfl rfl rfl rfl rfl ?_
 refine x0 (.bool r89_2) rfl rfl rfl rfl rfl rfl ?_
 refine a0 (.slice Au89_0 r89_1.length ku89_0) rfl rfl rfl rfl rfl ?_
 refine a0 (.bool r89_2) rfl rfl rfl rfl rfl ?_
 refine nilt ?_
 exact laws_FnChangeGiven.w90 k r ws _ _ Au82_0 ku82_0 r82_0 rfl qu82_0 (On.adv Cu82_0 (below_step (below_step (below_step (below_step (below_step (below_step bb83 bb84) bb85) bb86) bb87) bb88) bb89)) r83_1 rfl r83_2 rfl r84_1 rfl r84_2 rfl r85_1 rfl r85_2 rfl r86_1 rfl r86_2 rfl Au87_0 ku87_0 r87_1 rfl qu87_0 (On.adv Cu87_0 (below_step bb88 bb89)) r87_2 rfl Au88_0 ku88_0 r88_1 rfl qu88_0 (On.adv Cu88_0 bb89) r88_2 rfl Au89_0 ku89_0 r89_1 rfl qu89_0 Cu89_0 r89_2 rfl (below_step B0 (below_step (below_step (below_step (below_step (below_step (below_step (below_step bb82 bb83) bb84) bb85) bb86) bb87) bb88) bb89)) h
def laws_FnChangeGiven.p73 (k : Nat) (l1 : List Int) (l5 : List Int) (a6 : Int) (a11 : Int) (b16 : Bool) (a19 : Int) : Option Bool := if (decide (a6 ≤ 2000)) = true then ((impl_FailuresUpTo.f k l5 a6).bind fun t75 => if t75.2 = true then ((laws_tHas.f k t75.1 a6).bind fun r77_0 => (if (!b16) = true then (some true) else (some (decide (a11 < a19)))).bind fun d78 => if (r77_0 != d78) = true then none else laws_FnChangeGiven.p81 k l1) else none) else (laws_FnChangeGiven.p81 k l1)
theorem laws_FnChangeGiven.w73 (k : Nat) (r : Bool) (ws : World) (f0 : Nat → Value) (w0 : World) (A1 : Option Addr) (k1 : Nat) (l1 : List Int) (h1 : f0 1 = .slice A1 l1.length k1) (q1 : l1.length ≤ k1) (C1 : On w0 fun x => Kd.C (Kd.int .u8) x A1 l1.length l1) (A5 : Option Addr) (k5 : Nat) (l5 : List Int) (h5 : f0 5 = .slice A5 l5.length k5) (q5 : l5.length ≤ k5) (C5 : On w0 fun x => Kd.C (Kd.int .i64) x A5 l5.length l5) (a6 : Int) (h6 : f0 6 = .int .i64 a6) (a11 : Int) (h11 : f0 11 = .int .i64 a11) (b16 : Bool) (h16 : f0 16 = .bool b16) (a19 : Int) (h19 : f0 19 = .int .i64 a19) (B0 : Below ws.heap.size ws w0) (h : laws_FnChangeGiven.p73 k l1 l5 a6 a11 b16 a19 = some r) : Code.wp Try.prog (srn 4 (ct (srn 1 (sl (srn 14 laws_FnChangeGiven.B))))) (laws_FnChangeGiven.Q1 ws r) (fr 543 f0) w0 := by
 unfold laws_FnChangeGiven.p73 at h
 refine wp_seq ?_
 refine wp_region_lit ?_
 refine m0 (.int .i64 a6) rfl rfl rfl rfl h6 ?_
 refine bi_ (v := .bool (decide (a6 ≤ 2000))) rfl rfl rfl rfl (go0 rfl) rfl rfl (i_leq rfl) ?_
 refine nilt ?_
 rcases ifs h with ⟨c74, h⟩ | ⟨c74, h⟩
 · refine cT ?_ (Eq.trans rfl (vb c74)) rfl
   refine wp_seq ?_
   refine wp_region_lit ?_
   refine m0 (.slice A5 l5.length k5) rfl rfl rfl rfl h5 ?_
   refine m0 (.int .i64 a6) rfl rfl rfl rfl h6 ?_
   obtain ⟨⟨r75_1, r75_2⟩, e75, h⟩ := bind_ h
   refine cl_ Try.func23 (by kernel_rfl) rfl rfl rfl rfl (go0 rfl) (argc (v := .slice A5 l5.length k5) rfl (argc (v := .int .i64 a6) rfl argn)) ?_
   refine (impl_FailuresUpTo.calls k A5 k5 l5 a6 _ _ _ (C5 _ (Below.refl _ _)) q5 e75).mono ?_
   rintro e w75 ⟨u75_0, rfl, ou75_0, bb75⟩
   obtain ⟨Au75_0, ku75_0, xu75_0, qu75_0, Cu75_0⟩ := R3 ou75_0; subst xu75_0
   refine ⟨_, rfl, ?_⟩
   refine m0 (.tuple #[.slice Au75_0 r75_1.length ku75_0, .bool r75_2]) rfl rfl rfl rfl rfl ?_
   refine x0 (.slice Au75_0 r75_1.length ku75_0) rfl rfl rfl rfl rfl rfl ?_
   refine x0 (.bool r75_2) rfl rfl rfl rfl rfl rfl ?_
   refine a0 (.slice Au75_0 r75_1.length ku75_0) rfl rfl rfl rfl rfl ?_
   refine a0 (.bool r75_2) rfl rfl rfl rfl rfl ?_
   refine nilt ?_
   refine wp_seq ?_
   refine wp_region_lit ?_
   obtain ⟨c76, h⟩ := ify h
   refine m0 (.bool true) rfl rfl rfl rfl (Eq.trans rfl (vb c76)) ?_
   refine nt_ (c := false) rfl rfl rfl (go0 rfl) rfl rfl ?_
   refine m0 (.bool false) rfl rfl rfl rfl rfl ?_
   refine mv_ (v := .slice Au75_0 r75_1.length ku75_0) rfl rfl rfl (go1 (j := 2) (t := 318) rfl (by kernel_rfl) rfl rfl) rfl ?_
   refine mv_ (v := .int .i64 a6) rfl rfl rfl (go1 (j := 2) (t := 318) rfl (by kernel_rfl) rfl rfl) h6 ?_
   obtain ⟨r77_0, e77, h⟩ := bind_ h
   refine cl_ Try.func24 (by kernel_rfl) rfl rfl rfl rfl (go1 (j := 2) (t := 318) rfl (by kernel_rfl) rfl rfl) (argc (v := .slice Au75_0 r75_1.length ku75_0) rfl (argc (v := .int .i64 a6) rfl argn)) ?_
   refine (laws_tHas.calls k Au75_0 ku75_0 r75_1 a6 _ _ (Cu75_0 _ (Below.refl _ _)) qu75_0 e77).mono ?_
   rintro e w77 ⟨rfl, d77⟩
   have bb77 := Drawn0.below d77
   refine ⟨_, rfl, ?_⟩
   refine mv_ (v := .bool b16) rfl rfl rfl (go1 (j := 2) (t := 318) rfl (by kernel_rfl) rfl rfl) h16 ?_
   refine nt_ (c := !b16) rfl rfl rfl (go1 (j := 2) (t := 318) rfl (by kernel_rfl) rfl rfl) rfl rfl ?_
   refine mv_ (v := .bool (!b16)) rfl rfl rfl (go1 (j := 2) (t := 318) rfl (by kernel_rfl) rfl rfl) rfl ?_
   obtain ⟨d78, e78, h⟩ := bind_ h
   refine cut_ 4 (fun f g w' => Same 66 f g ∧ g 328 = .bool d78 ∧ g 318 = .bool false ∧ g 321 = .bool r77_0 ∧ Below w77.heap.size w77 w') ?_ ?_
   · clear h; have h := e78; clear e78
     rcases ifs h with ⟨c79, h⟩ | ⟨c79, h⟩
     · refine skp (no1 (j := 8) (t := 324) rfl (by kernel_rfl) rfl (Eq.trans rfl (vb c79)) rfl) rfl ?_
       refine skp (no1 (j := 8) (t := 324) rfl (by kernel_rfl) rfl (Eq.trans rfl (vb c79)) rfl) rfl ?_
       refine skp (no1 (j := 8) (t := 324) rfl (by kernel_rfl) rfl (Eq.trans rfl (vb c79)) rfl) rfl ?_
       refine pk_ (b := true) (v := .bool true) rfl rfl rfl rfl rfl (go1 (j := 2) (t := 318) rfl (by kernel_rfl) rfl rfl) (Eq.trans rfl (vb c79)) rfl ?_
       refine wpList_nil ?_
       exact then_n ⟨_, rfl, (Same.put (Same.put (Same.put (Same.put (Same.refl _ _) rfl) rfl) rfl) rfl), (Eq.trans rfl (vb (Option.some.inj h))), rfl, rfl, (Below.refl _ _)⟩
     refine mv_ (v := .int .i64 a19) rfl rfl rfl (go1 (j := 8) (t := 324) rfl (by kernel_rfl) rfl (Eq.trans rfl (vb c79))) h19 ?_
     refine mv_ (v := .int .i64 a11) rfl rfl rfl (go1 (j := 8) (t := 324) rfl (by kernel_rfl) rfl (Eq.trans rfl (vb c79))) h11 ?_
     refine bi_ (v := .bool (decide (a11 < a19))) rfl rfl rfl rfl (go1 (j := 8) (t := 324) rfl (by kernel_rfl) rfl (Eq.trans rfl (vb c79))) rfl rfl (i_gtr rfl) ?_
     refine pk_ (b := false) (v := .bool (decide (a11 < a19))) rfl rfl rfl rfl rfl (go1 (j := 2) (t := 318) rfl (by kernel_rfl) rfl rfl) (Eq.trans rfl (vb c79)) rfl ?_
     refine wpList_nil ?_
     exact then_n ⟨_, rfl, (Same.put (Same.put (Same.put (Same.put (Same.refl _ _) rfl) rfl) rfl) rfl), (Eq.trans rfl (vb (Option.some.inj h))), rfl, rfl, (Below.refl _ _)⟩
   clear e78; rintro g78 w78 ⟨S78, x78_328, x78_318, x78_321, bb78⟩
   obtain ⟨c80, h⟩ := ifn h
   refine bb_ (v := .bool (false)) rfl rfl rfl rfl (go1 (j := 2) (t := 318) rfl (by kernel_rfl) rfl x78_318) x78_321 x78_328 (b_neq laws_FnChangeGiven.u4 c80) ?_
   refine pk_ (b := false) (v := .bool false) rfl rfl rfl rfl rfl (go0 rfl) x78_318 rfl ?_
   refine nilt ?_
   refine cF ?_ rfl rfl
   refine wp_skip ?_
   refine then_n ?_
   exact laws_FnChangeGiven.w81 k r ws _ _ A1 k1 l1 (Eq.trans (S78 1 rfl) h1) q1 (On.adv C1 (below_step (below_step bb75 bb77) bb78)) (below_step B0 (below_step (below_step bb75 bb77) bb78)) h
 refine cF ?_ (Eq.trans rfl (vb c74)) rfl
 refine wp_skip ?_
 refine then_n ?_
 exact laws_FnChangeGiven.w81 k r ws _ _ A1 k1 l1 h1 q1 C1 B0 h
def laws_FnChangeGiven.p68 (k : Nat) (l1 : List Int) (l5 : List Int) (a6 : Int) (a11 : Int) (l15 : List Int) (b16 : Bool) (a19 : Int) (a30 : Int) : Option Bool := if (a30 != a6) = true then none else (laws_tSum.f k l15).bind fun r70_0 => if (r70_0 != a19) = true then none else if (decide (a19 < a11)) = true then none else laws_FnChangeGiven.p73 k l1 l5 a6 a11 b16 a19
theorem laws_FnChangeGiven.w68 (k : Nat) (r : Bool) (ws : World) (f0 : Nat → Value) (w0 : World) (A1 : Option Addr) (k1 : Nat) (l1 : List Int) (h1 : f0 1 = .slice A1 l1.length k1) (q1 : l1.length ≤ k1) (C1 : On w0 fun x => Kd.C (Kd.int .u8) x A1 l1.length l1) (A5 : Option Addr) (k5 : Nat) (l5 : List Int) (h5 : f0 5 = .slice A5 l5.length k5) (q5 : l5.length ≤ k5) (C5 : On w0 fun x => Kd.C (Kd.int .i64) x A5 l5.length l5) (a6 : Int) (h6 : f0 6 = .int .i64 a6) (a11 : Int) (h11 : f0 11 = .int .i64 a11) (A15 : Option Addr) (k15 : Nat) (l15 : List Int) (h15 : f0 15 = .slice A15 l15.length k15) (q15 : l15.length ≤ k15) (C15 : On w0 fun x => Kd.C (Kd.int .i64) x A15 l15.length l15) (b16 : Bool) (h16 : f0 16 = .bool b16) (a19 : Int) (h19 : f0 19 = .int .i64 a19) (a30 : Int) (h30 : f0 30 = .int .i64 a30) (B0 : Below ws.heap.size ws w0) (h : laws_FnChangeGiven.p68 k l1 l5 a6 a11 l15 b16 a19 a30 = some r) : Code.wp Try.prog (srn 2 (ct (srn 1 (sl (srn 3 (ct (srn 1 (sl (srn 14 laws_FnChangeGiven.B))))))))) (laws_FnChangeGiven.Q5 ws r) (fr 543 f0) w0 := by
 unfold laws_FnChangeGiven.p68 at h
 refine wp_seq ?_
 refine wp_region_lit ?_
 refine m0 (.int .i64 a30) rfl rfl rfl rfl h30 ?_
 refine m0 (.int .i64 a6) rfl rfl rfl rfl h6 ?_
 obtain ⟨c69, h⟩ := ifn h
 refine bi_ (v := .bool (false)) rfl rfl rfl rfl (go0 rfl) rfl rfl (i_neq c69) ?_
 refine m0 (.bool false) rfl rfl rfl rfl rfl ?_
 refine mv_ (v := .slice A15 l15.length k15) rfl rfl rfl (go1 (j := 3) (t := 297) rfl (by kernel_rfl) rfl rfl) h15 ?_
 obtain ⟨r70_0, e70, h⟩ := bind_ h
 refine cl_ Try.func22 (by kernel_rfl) rfl rfl rfl rfl (go1 (j := 3) (t := 297) rfl (by kernel_rfl) rfl rfl) (argc (v := .slice A15 l15.length k15) rfl argn) ?_
 refine (laws_tSum.calls k A15 k15 l15 _ _ (C15 _ (Below.refl _ _)) q15 e70).mono ?_
 rintro e w70 ⟨rfl, d70⟩
 have bb70 := Drawn0.below d70
 refine ⟨_, rfl, ?_⟩
 refine mv_ (v := .int .i64 a19) rfl rfl rfl (go1 (j := 3) (t := 297) rfl (by kernel_rfl) rfl rfl) h19 ?_
 obtain ⟨c71, h⟩ := ifn h
 refine bi_ (v := .bool (false)) rfl rfl rfl rfl (go1 (j := 3) (t := 297) rfl (by kernel_rfl) rfl rfl) rfl rfl (i_neq c71) ?_
 refine pk_ (b := false) (v := .bool false) rfl rfl rfl rfl rfl (go0 rfl) rfl rfl ?_
 refine m0 (.bool false) rfl rfl rfl rfl rfl ?_
 refine mv_ (v := .int .i64 a19) rfl rfl rfl (go1 (j := 9) (t := 303) rfl (by kernel_rfl) rfl rfl) h19 ?_
 refine mv_ (v := .int .i64 a11) rfl rfl rfl (go1 (j := 9) (t := 303) rfl (by kernel_rfl) rfl rfl) h11 ?_
 obtain ⟨c72, h⟩ := ifn h
 refine bi_ (v := .bool (false)) rfl rfl rfl rfl (go1 (j := 9) (t := 303) rfl (by kernel_rfl) rfl rfl) rfl rfl (i_lss c72) ?_
 refine pk_ (b := false) (v := .bool false) rfl rfl rfl rfl rfl (go0 rfl) rfl rfl ?_
 refine nilt ?_
 refine cF ?_ rfl rfl
 refine wp_skip ?_
 refine then_n ?_
 exact laws_FnChangeGiven.w73 k r ws _ _ A1 k1 l1 h1 q1 (On.adv C1 bb70) A5 k5 l5 h5 q5 (On.adv C5 bb70) a6 h6 a11 h11 b16 h16 a19 h19 (below_step B0 bb70) h
def laws_FnChangeGiven.l54 (k : Nat) : Nat → List Int → List Int → Int → Int → List Int → Bool → Int → Int → List Int → Int → Int → Option Bool
 | 0, _, _, _, _, _, _, _, _, _, _, _ => none
 | n + 1, l1, l5, a6, a11, l15, b16, a19, a30, l259, a260, a261 => if (decide (a261 < a260)) = true then (if (decide (0 ≤ a261) && decide (a261 < (l259.length : Int))) = true then (if (decide (0 ≤ a261) && decide (a261 < (l5.length : Int))) = true then ((if (decide ((wrap64 (a261 + 1)) < (l5.length : Int))) = true then (if (decide (0 ≤ a261) && decide (a261 < (l5.length : Int))) = true then (if (decide (0 ≤ (wrap64 (a261 + 1))) && decide ((wrap64 (a261 + 1)) < (l5.length : Int))) = true then (some (decide ((rd l5 (wrap64 (a261 + 1))) ≤ (wrap64 ((rd l259 a261) * (rd l5 a261)))))) else none) else none) else (some false)).bind fun d61 => if d61 = true then none else laws_FnChangeGiven.p67 k (laws_FnChangeGiven.l54 k n) l1 l5 a6 a11 l15 b16 a19 (wrap64 (a30 + (wrap64 ((rd l259 a261) * (rd l5 a261))))) l259 a260 a261) else none) else none) else (laws_FnChangeGiven.p68 k l1 l5 a6 a11 l15 b16 a19 a30)
theorem laws_FnChangeGiven.w54 (k : Nat) (r : Bool) (ws : World) : ∀ (n : Nat), ∀ (f0 : Nat → Value) (w0 : World) (A1 : Option Addr) (k1 : Nat) (l1 : List Int) (h1 : f0 1 = .slice A1 l1.length k1) (q1 : l1.length ≤ k1) (C1 : On w0 fun x => Kd.C (Kd.int .u8) x A1 l1.length l1) (A5 : Option Addr) (k5 : Nat) (l5 : List Int) (h5 : f0 5 = .slice A5 l5.length k5) (q5 : l5.length ≤ k5) (C5 : On w0 fun x => Kd.C (Kd.int .i64) x A5 l5.length l5) (a6 : Int) (h6 : f0 6 = .int .i64 a6) (a11 : Int) (h11 : f0 11 = .int .i64 a11) (A15 : Option Addr) (k15 : Nat) (l15 : List Int) (h15 : f0 15 = .slice A15 l15.length k15) (q15 : l15.length ≤ k15) (C15 : On w0 fun x => Kd.C (Kd.int .i64) x A15 l15.length l15) (b16 : Bool) (h16 : f0 16 = .bool b16) (a19 : Int) (h19 : f0 19 = .int .i64 a19) (a30 : Int) (h30 : f0 30 = .int .i64 a30) (A259 : Option Addr) (k259 : Nat) (l259 : List Int) (h259 : f0 259 = .slice A259 l259.length k259) (q259 : l259.length ≤ k259) (C259 : On w0 fun x => Kd.C (Kd.int .i64) x A259 l259.length l259) (a260 : Int) (h260 : f0 260 = .int .i64 a260) (a261 : Int) (h261 : f0 261 = .int .i64 a261) (B0 : Below ws.heap.size ws w0) (h : laws_FnChangeGiven.l54 k n l1 l5 a6 a11 l15 b16 a19 a30 l259 a260 a261 = some r), AtHead Try.prog (lb (bl (srn 1 (sl (srn 1 (ct (srn 1 (sl (srn 3 (ct (srn 1 (sl (srn 14 laws_FnChangeGiven.B))))))))))))) (laws_FnChangeGiven.Q7 ws r) (fr 543 f0) w0 := by
 intro n
 induction n with
 | zero => intro f0 w0 A1 k1 l1 h1 q1 C1 A5 k5 l5 h5 q5 C5 a6 h6 a11 h11 A15 k15 l15 h15 q15 C15 b16 h16 a19 h19 a30 h30 A259 k259 l259 h259 q259 C259 a260 h260 a261 h261 B0 h; rw [laws_FnChangeGiven.l54] at h; cases h
 | succ n ih54 =>
  intro f0 w0 A1 k1 l1 h1 q1 C1 A5 k5 l5 h5 q5 C5 a6 h6 a11 h11 A15 k15 l15 h15 q15 C15 b16 h16 a19 h19 a30 h30 A259 k259 l259 h259 q259 C259 a260 h260 a261 h261 B0 h
  rw [laws_FnChangeGiven.l54] at h
  refine head_round ?_
  refine wp_seq ?_
  refine wp_region_lit ?_
  refine bi_ (v := .bool (decide (a261 < a260))) rfl rfl rfl rfl (go0 rfl) h261 h260 (i_lss rfl) ?_
  refine nilt ?_
  refine wp_seq ?_
  rcases ifs h with ⟨c55, h⟩ | ⟨c55, h⟩
  · refine cT ?_ (Eq.trans rfl (vb c55)) rfl
    refine wp_skip ?_
    refine then_n ?_
    refine wp_seq ?_
    refine wp_block ?_
    refine wp_seq ?_
    refine wp_region_lit ?_
    refine m0 (.int .i64 a261) rfl rfl rfl rfl h261 ?_
    obtain ⟨c56, h⟩ := ify h
    replace c56 := bnd c56
    obtain ⟨ad57, ead57, xad57⟩ := at_int_on C259 a261 c56.1 (by have := c56.2; omega)
    refine ix_ (q := a261) laws_FnChangeGiven.u24 laws_FnChangeGiven.z24 rfl rfl rfl rfl (go0 rfl) h259 h261 ead57 c56 ?_
    refine ld_ (v := .int .i64 (rd l259 a261)) rfl rfl rfl (go0 rfl) rfl (load_i laws_FnChangeGiven.u3 (xad57 _ (Below.refl _ _))) ?_
    refine a0 (.int .i64 a261) rfl rfl rfl rfl rfl ?_
    refine a0 (.int .i64 (rd l259 a261)) rfl rfl rfl rfl rfl ?_
    refine nilt ?_
    refine wp_seq ?_
    refine wp_region_lit ?_
    refine m0 (.int .i64 a30) rfl rfl rfl rfl h30 ?_
    refine m0 (.int .i64 (rd l259 a261)) rfl rfl rfl rfl rfl ?_
    refine m0 (.slice A5 l5.length k5) rfl rfl rfl rfl h5 ?_
    refine m0 (.int .i64 a261) rfl rfl rfl rfl rfl ?_
    obtain ⟨c58, h⟩ := ify h
    replace c58 := bnd c58
    obtain ⟨ad59, ead59, xad59⟩ := at_int_on C5 a261 c58.1 (by have := c58.2; omega)
    refine ix_ (q := a261) laws_FnChangeGiven.u24 laws_FnChangeGiven.z24 rfl rfl rfl rfl (go0 rfl) rfl rfl ead59 c58 ?_
    refine ld_ (v := .int .i64 (rd l5 a261)) rfl rfl rfl (go0 rfl) rfl (load_i laws_FnChangeGiven.u3 (xad59 _ (Below.refl _ _))) ?_
    refine bi_ (v := .int .i64 (wrap64 ((rd l259 a261) * (rd l5 a261)))) rfl rfl rfl rfl (go0 rfl) rfl rfl (i_mul rfl) ?_
    refine bi_ (v := .int .i64 (wrap64 (a30 + (wrap64 ((rd l259 a261) * (rd l5 a261)))))) rfl rfl rfl rfl (go0 rfl) rfl rfl (i_add rfl) ?_
    refine a0 (.int .i64 (wrap64 (a30 + (wrap64 ((rd l259 a261) * (rd l5 a261)))))) rfl rfl rfl rfl rfl ?_
    refine nilt ?_
    refine wp_seq ?_
    refine startq (by kernel_rfl) (by kernel_rfl) ?_
    refine mvq (v := .int .i64 a261) rfl rfl rfl (go0 rfl) rfl ?_
    refine biq (v := .int .i64 (wrap64 (a261 + 1))) rfl rfl rfl rfl (go0 rfl) rfl rfl (fun _ => (i_add rfl)) ?_
    refine mvq (v := .slice A5 l5.length k5) rfl rfl rfl (go0 rfl) h5 ?_
    refine lnq laws_FnChangeGiven.u24 rfl rfl rfl (go0 rfl) rfl ?_
    refine biq (v := .bool (decide ((wrap64 (a261 + 1)) < (l5.length : Int)))) rfl rfl rfl rfl (go0 rfl) rfl rfl (fun _ => (i_lss rfl)) ?_
    refine mvq (v := .bool (decide ((wrap64 (a261 + 1)) < (l5.length : Int)))) rfl rfl rfl (go0 rfl) rfl ?_
    obtain ⟨d61, e61, h⟩ := bind_ h
    replace h := ifn h
    obtain ⟨y61, h⟩ := h
    subst y61
    refine cutq 13 (fun f g => Same 66 f g ∧ g 292 = .bool false ∧ g 259 = .slice A259 l259.length k259 ∧ g 260 = .int .i64 a260 ∧ g 261 = .int .i64 a261) ?_ ?_
    · clear h; have h := e61; clear e61
      rcases ifs h with ⟨c62, h⟩ | ⟨c62, h⟩
      · refine mvq (v := .int .i64 (rd l259 a261)) rfl rfl rfl (go1 (j := 5) (t := 279) rfl (by kernel_rfl) rfl (Eq.trans rfl (vb c62))) rfl ?_
        refine mvq (v := .slice A5 l5.length k5) rfl rfl rfl (go1 (j := 5) (t := 279) rfl (by kernel_rfl) rfl (Eq.trans rfl (vb c62))) h5 ?_
        refine mvq (v := .int .i64 a261) rfl rfl rfl (go1 (j := 5) (t := 279) rfl (by kernel_rfl) rfl (Eq.trans rfl (vb c62))) rfl ?_
        obtain ⟨c63, h⟩ := ify h
        replace c63 := bnd c63
        obtain ⟨ad64, ead64, xad64⟩ := at_int_on C5 a261 c63.1 (by have := c63.2; omega)
        refine ixq (q := a261) laws_FnChangeGiven.u24 laws_FnChangeGiven.z24 rfl rfl rfl rfl (go1 (j := 5) (t := 279) rfl (by kernel_rfl) rfl (Eq.trans rfl (vb c62))) rfl rfl ead64 c63 ?_
        refine ldq (v := .int .i64 (rd l5 a261)) rfl rfl rfl (go1 (j := 5) (t := 279) rfl (by kernel_rfl) rfl (Eq.trans rfl (vb c62))) rfl (fun _ b_ => load_i laws_FnChangeGiven.u3 (xad64 _ b_)) ?_
        refine biq (v := .int .i64 (wrap64 ((rd l259 a261) * (rd l5 a261)))) rfl rfl rfl rfl (go1 (j := 5) (t := 279) rfl (by kernel_rfl) rfl (Eq.trans rfl (vb c62))) rfl rfl (fun _ => (i_mul rfl)) ?_
        refine mvq (v := .slice A5 l5.length k5) rfl rfl rfl (go1 (j := 5) (t := 279) rfl (by kernel_rfl) rfl (Eq.trans rfl (vb c62))) h5 ?_
        refine mvq (v := .int .i64 a261) rfl rfl rfl (go1 (j := 5) (t := 279) rfl (by kernel_rfl) rfl (Eq.trans rfl (vb c62))) rfl ?_
        refine biq (v := .int .i64 (wrap64 (a261 + 1))) rfl rfl rfl rfl (go1 (j := 5) (t := 279) rfl (by kernel_rfl) rfl (Eq.trans rfl (vb c62))) rfl rfl (fun _ => (i_add rfl)) ?_
        obtain ⟨c65, h⟩ := ify h
        replace c65 := bnd c65
        obtain ⟨ad66, ead66, xad66⟩ := at_int_on C5 (wrap64 (a261 + 1)) c65.1 (by have := c65.2; omega)
        refine ixq (q := (wrap64 (a261 + 1))) laws_FnChangeGiven.u24 laws_FnChangeGiven.z24 rfl rfl rfl rfl (go1 (j := 5) (t := 279) rfl (by kernel_rfl) rfl (Eq.trans rfl (vb c62))) rfl rfl ead66 c65 ?_
        refine ldq (v := .int .i64 (rd l5 (wrap64 (a261 + 1)))) rfl rfl rfl (go1 (j := 5) (t := 279) rfl (by kernel_rfl) rfl (Eq.trans rfl (vb c62))) rfl (fun _ b_ => load_i laws_FnChangeGiven.u3 (xad66 _ b_)) ?_
        refine biq (v := .bool (decide ((rd l5 (wrap64 (a261 + 1))) ≤ (wrap64 ((rd l259 a261) * (rd l5 a261)))))) rfl rfl rfl rfl (go1 (j := 5) (t := 279) rfl (by kernel_rfl) rfl (Eq.trans rfl (vb c62))) rfl rfl (fun _ => (i_geq rfl)) ?_
        refine pkq (b := true) (v := .bool (decide ((rd l5 (wrap64 (a261 + 1))) ≤ (wrap64 ((rd l259 a261) * (rd l5 a261)))))) rfl rfl rfl rfl rfl (go0 rfl) (Eq.trans rfl (vb c62)) rfl ?_
        refine wpQuiet_nil ?_
        exact ⟨_, rfl, (Same.put (Same.put (Same.put (Same.put (Same.put (Same.put (Same.put (Same.put (Same.put (Same.put (Same.put (Same.put (Same.put (Same.refl _ _) rfl) rfl) rfl) rfl) rfl) rfl) rfl) rfl) rfl) rfl) rfl) rfl) rfl), (Eq.trans rfl (vb (Option.some.inj h))), h259, h260, h261⟩
      refine skpq (no1 (j := 5) (t := 279) rfl (by kernel_rfl) rfl (Eq.trans rfl (vb c62)) rfl) rfl ?_
      refine skpq (no1 (j := 5) (t := 279) rfl (by kernel_rfl) rfl (Eq.trans rfl (vb c62)) rfl) rfl ?_
      refine skpq (no1 (j := 5) (t := 279) rfl (by kernel_rfl) rfl (Eq.trans rfl (vb c62)) rfl) rfl ?_
      refine skpq (no1 (j := 5) (t := 279) rfl (by kernel_rfl) rfl (Eq.trans rfl (vb c62)) rfl) rfl ?_
      refine skpq (no1 (j := 5) (t := 279) rfl (by kernel_rfl) rfl (Eq.trans rfl (vb c62)) rfl) rfl ?_
      refine skpq (no1 (j := 5) (t := 279) rfl (by kernel_rfl) rfl (Eq.trans rfl (vb c62)) rfl) rfl ?_
      refine skpq (no1 (j := 5) (t := 279) rfl (by kernel_rfl) rfl (Eq.trans rfl (vb c62)) rfl) rfl ?_
      refine skpq (no1 (j := 5) (t := 279) rfl (by kernel_rfl) rfl (Eq.trans rfl (vb c62)) rfl) rfl ?_
      refine skpq (no1 (j := 5) (t := 279) rfl (by kernel_rfl) rfl (Eq.trans rfl (vb c62)) rfl) rfl ?_
      refine skpq (no1 (j := 5) (t := 279) rfl (by kernel_rfl) rfl (Eq.trans rfl (vb c62)) rfl) rfl ?_
      refine skpq (no1 (j := 5) (t := 279) rfl (by kernel_rfl) rfl (Eq.trans rfl (vb c62)) rfl) rfl ?_
      refine skpq (no1 (j := 5) (t := 279) rfl (by kernel_rfl) rfl (Eq.trans rfl (vb c62)) rfl) rfl ?_
      refine pkq (b := false) (v := .bool false) rfl rfl rfl rfl rfl (go0 rfl) (Eq.trans rfl (vb c62)) rfl ?_
      refine wpQuiet_nil ?_
      exact ⟨_, rfl, (Same.put (Same.put (Same.put (Same.put (Same.put (Same.put (Same.put (Same.put (Same.put (Same.put (Same.put (Same.put (Same.put (Same.refl _ _) rfl) rfl) rfl) rfl) rfl) rfl) rfl) rfl) rfl) rfl) rfl) rfl) rfl), (Eq.trans rfl (vb (Option.some.inj h))), h259, h260, h261⟩
    clear e61; rintro g61 ⟨S61, x61_292, x61_259, x61_260, x61_261⟩
    refine wpQuiet_nil ?_
    intro w60 bb60
    refine then_n ?_
    refine cF ?_ x61_292 rfl
    refine wp_skip ?_
    refine blk_n ?_
    refine then_n ?_
    exact laws_FnChangeGiven.w67 k r ws (laws_FnChangeGiven.l54 k n) ih54 _ _ A1 k1 l1 (Eq.trans (S61 1 rfl) h1) q1 (On.adv C1 bb60) A5 k5 l5 (Eq.trans (S61 5 rfl) h5) q5 (On.adv C5 bb60) a6 (Eq.trans (S61 6 rfl) h6) a11 (Eq.trans (S61 11 rfl) h11) A15 k15 l15 (Eq.trans (S61 15 rfl) h15) q15 (On.adv C15 bb60) b16 (Eq.trans (S61 16 rfl) h16) a19 (Eq.trans (S61 19 rfl) h19) (wrap64 (a30 + (wrap64 ((rd l259 a261) * (rd l5 a261))))) (Eq.trans (S61 30 rfl) rfl) A259 k259 l259 x61_259 q259 (On.adv C259 bb60) a260 x61_260 a261 x61_261 (below_step B0 bb60) h
  refine cF ?_ (Eq.trans rfl (vb c55)) rfl
  refine wp_exit ?_
  refine then_x ?_
  refine then_x ?_
  refine blk_x ?_
  refine then_n ?_
  exact laws_FnChangeGiven.w68 k r ws _ _ A1 k1 l1 h1 q1 C1 A5 k5 l5 h5 q5 C5 a6 h6 a11 h11 A15 k15 l15 h15 q15 C15 b16 h16 a19 h19 a30 h30 B0 h
def laws_FnChangeGiven.p48 (k : Nat) (l1 : List Int) (l5 : List Int) (a6 : Int) (l7 : List Int) (a11 : Int) (l15 : List Int) (b16 : Bool) (a19 : Int) (a27 : Int) : Option Bool := if (a27 != a6) = true then none else (laws_tSum.f k l7).bind fun r50_0 => if (r50_0 != a11) = true then none else if ((l7.length : Int) != (l5.length : Int)) = true then none else if b16 = true then (laws_FnChangeGiven.l54 k k l1 l5 a6 a11 l15 b16 a19 0 l15 (l15.length : Int) 0) else (laws_FnChangeGiven.p73 k l1 l5 a6 a11 b16 a19)
theorem laws_FnChangeGiven.w48 (k : Nat) (r : Bool) (ws : World) (f0 : Nat → Value) (w0 : World) (A1 : Option Addr) (k1 : Nat) (l1 : List Int) (h1 : f0 1 = .slice A1 l1.length k1) (q1 : l1.length ≤ k1) (C1 : On w0 fun x => Kd.C (Kd.int .u8) x A1 l1.length l1) (A5 : Option Addr) (k5 : Nat) (l5 : List Int) (h5 : f0 5 = .slice A5 l5.length k5) (q5 : l5.length ≤ k5) (C5 : On w0 fun x => Kd.C (Kd.int .i64) x A5 l5.length l5) (a6 : Int) (h6 : f0 6 = .int .i64 a6) (A7 : Option Addr) (k7 : Nat) (l7 : List Int) (h7 : f0 7 = .slice A7 l7.length k7) (q7 : l7.length ≤ k7) (C7 : On w0 fun x => Kd.C (Kd.int .i64) x A7 l7.length l7) (a11 : Int) (h11 : f0 11 = .int .i64 a11) (A15 : Option Addr) (k15 : Nat) (l15 : List Int) (h15 : f0 15 = .slice A15 l15.length k15) (q15 : l15.length ≤ k15) (C15 : On w0 fun x => Kd.C (Kd.int .i64) x A15 l15.length l15) (b16 : Bool) (h16 : f0 16 = .bool b16) (a19 : Int) (h19 : f0 19 = .int .i64 a19) (a27 : Int) (h27 : f0 27 = .int .i64 a27) (B0 : Below ws.heap.size ws w0) (h : laws_FnChangeGiven.p48 k l1 l5 a6 l7 a11 l15 b16 a19 a27 = some r) : Code.wp Try.prog (srn 2 (ct (srn 1 (sl (srn 14 laws_FnChangeGiven.B))))) (laws_FnChangeGiven.Q1 ws r) (fr 543 f0) w0 := by
 unfold laws_FnChangeGiven.p48 at h
 refine wp_seq ?_
 refine wp_seq ?_
 refine wp_region_lit ?_
 refine m0 (.int .i64 a27) rfl rfl rfl rfl h27 ?_
 refine m0 (.int .i64 a6) rfl rfl rfl rfl h6 ?_
 obtain ⟨c49, h⟩ := ifn h
 refine bi_ (v := .bool (false)) rfl rfl rfl rfl (go0 rfl) rfl rfl (i_neq c49) ?_
 refine m0 (.bool false) rfl rfl rfl rfl rfl ?_
 refine mv_ (v := .slice A7 l7.length k7) rfl rfl rfl (go1 (j := 3) (t := 245) rfl (by kernel_rfl) rfl rfl) h7 ?_
 obtain ⟨r50_0, e50, h⟩ := bind_ h
 refine cl_ Try.func22 (by kernel_rfl) rfl rfl rfl rfl (go1 (j := 3) (t := 245) rfl (by kernel_rfl) rfl rfl) (argc (v := .slice A7 l7.length k7) rfl argn) ?_
 refine (laws_tSum.calls k A7 k7 l7 _ _ (C7 _ (Below.refl _ _)) q7 e50).mono ?_
 rintro e w50 ⟨rfl, d50⟩
 have bb50 := Drawn0.below d50
 refine ⟨_, rfl, ?_⟩
 refine mv_ (v := .int .i64 a11) rfl rfl rfl (go1 (j := 3) (t := 245) rfl (by kernel_rfl) rfl rfl) h11 ?_
 obtain ⟨c51, h⟩ := ifn h
 refine bi_ (v := .bool (false)) rfl rfl rfl rfl (go1 (j := 3) (t := 245) rfl (by kernel_rfl) rfl rfl) rfl rfl (i_neq c51) ?_
 refine pk_ (b := false) (v := .bool false) rfl rfl rfl rfl rfl (go0 rfl) rfl rfl ?_
 refine m0 (.bool false) rfl rfl rfl rfl rfl ?_
 refine mv_ (v := .slice A7 l7.length k7) rfl rfl rfl (go1 (j := 9) (t := 251) rfl (by kernel_rfl) rfl rfl) h7 ?_
 refine ln_ laws_FnChangeGiven.u24 rfl rfl rfl (go1 (j := 9) (t := 251) rfl (by kernel_rfl) rfl rfl) rfl ?_
 refine mv_ (v := .slice A5 l5.length k5) rfl rfl rfl (go1 (j := 9) (t := 251) rfl (by kernel_rfl) rfl rfl) h5 ?_
 refine ln_ laws_FnChangeGiven.u24 rfl rfl rfl (go1 (j := 9) (t := 251) rfl (by kernel_rfl) rfl rfl) rfl ?_
 obtain ⟨c52, h⟩ := ifn h
 refine bi_ (v := .bool (false)) rfl rfl rfl rfl (go1 (j := 9) (t := 251) rfl (by kernel_rfl) rfl rfl) rfl rfl (i_neq c52) ?_
 refine pk_ (b := false) (v := .bool false) rfl rfl rfl rfl rfl (go0 rfl) rfl rfl ?_
 refine nilt ?_
 refine cF ?_ rfl rfl
 refine wp_skip ?_
 refine then_n ?_
 refine wp_seq ?_
 refine wp_seq ?_
 refine wp_region_lit ?_
 refine m0 (.bool b16) rfl rfl rfl rfl h16 ?_
 refine nilt ?_
 rcases ifs h with ⟨c53, h⟩ | ⟨c53, h⟩
 · refine cT ?_ (Eq.trans rfl (vb c53)) rfl
   refine wp_seq ?_
   refine wp_region_lit ?_
   refine a0 (.int .i64 0) rfl rfl rfl rfl rfl ?_
   refine nilt ?_
   refine wp_seq ?_
   refine wp_seq ?_
   refine wp_region_lit ?_
   refine m0 (.slice A15 l15.length k15) rfl rfl rfl rfl h15 ?_
   refine ln_ laws_FnChangeGiven.u24 rfl rfl rfl (go0 rfl) rfl ?_
   refine m0 (.int .i64 0) rfl rfl rfl rfl rfl ?_
   refine nilt ?_
   refine wp_block ?_
   exact head_loop (laws_FnChangeGiven.w54 k r ws k _ _ A1 k1 l1 h1 q1 (On.adv C1 bb50) A5 k5 l5 h5 q5 (On.adv C5 bb50) a6 h6 a11 h11 A15 k15 l15 h15 q15 (On.adv C15 bb50) b16 h16 a19 h19 0 rfl A15 k15 l15 rfl q15 (On.adv C15 bb50) (l15.length : Int) rfl 0 rfl (below_step B0 bb50) h)
 refine cF ?_ (Eq.trans rfl (vb c53)) rfl
 refine wp_skip ?_
 refine then_n ?_
 exact laws_FnChangeGiven.w73 k r ws _ _ A1 k1 l1 h1 q1 (On.adv C1 bb50) A5 k5 l5 h5 q5 (On.adv C5 bb50) a6 h6 a11 h11 b16 h16 a19 h19 (below_step B0 bb50) h
def laws_FnChangeGiven.l41 (k : Nat) : Nat → List Int → List Int → Int → List Int → Int → List Int → Bool → Int → Int → List Int → Int → Int → Option Bool
 | 0, _, _, _, _, _, _, _, _, _, _, _, _ => none
 | n + 1, l1, l5, a6, l7, a11, l15, b16, a19, a27, l226, a227, a228 => if (decide (a228 < a227)) = true then (if (decide (0 ≤ a228) && decide (a228 < (l226.length : Int))) = true then (if (decide (0 ≤ a228) && decide (a228 < (l5.length : Int))) = true then (laws_FnChangeGiven.p47 k (laws_FnChangeGiven.l41 k n) l1 l5 a6 l7 a11 l15 b16 a19 (wrap64 (a27 + (wrap64 ((rd l226 a228) * (rd l5 a228))))) l226 a227 a228) else none) else none) else (laws_FnChangeGiven.p48 k l1 l5 a6 l7 a11 l15 b16 a19 a27)
theorem laws_FnChangeGiven.w41 (k : Nat) (r : Bool) (ws : World) : ∀ (n : Nat), ∀ (f0 : Nat → Value) (w0 : World) (A1 : Option Addr) (k1 : Nat) (l1 : List Int) (h1 : f0 1 = .slice A1 l1.length k1) (q1 : l1.length ≤ k1) (C1 : On w0 fun x => Kd.C (Kd.int .u8) x A1 l1.length l1) (A5 : Option Addr) (k5 : Nat) (l5 : List Int) (h5 : f0 5 = .slice A5 l5.length k5) (q5 : l5.length ≤ k5) (C5 : On w0 fun x => Kd.C (Kd.int .i64) x A5 l5.length l5) (a6 : Int) (h6 : f0 6 = .int .i64 a6) (A7 : Option Addr) (k7 : Nat) (l7 : List Int) (h7 : f0 7 = .slice A7 l7.length k7) (q7 : l7.length ≤ k7) (C7 : On w0 fun x => Kd.C (Kd.int .i64) x A7 l7.length l7) (a11 : Int) (h11 : f0 11 = .int .i64 a11) (A15 : Option Addr) (k15 : Nat) (l15 : List Int) (h15 : f0 15 = .slice A15 l15.length k15) (q15 : l15.length ≤ k15) (C15 : On w0 fun x => Kd.C (Kd.int .i64) x A15 l15.length l15) (b16 : Bool) (h16 : f0 16 = .bool b16) (a19 : Int) (h19 : f0 19 = .int .i64 a19) (a27 : Int) (h27 : f0 27 = .int .i64 a27) (A226 : Option Addr) (k226 : Nat) (l226 : List Int) (h226 : f0 226 = .slice A226 l226.length k226) (q226 : l226.length ≤ k226) (C226 : On w0 fun x => Kd.C (Kd.int .i64) x A226 l226.length l226) (a227 : Int) (h227 : f0 227 = .int .i64 a227) (a228 : Int) (h228 : f0 228 = .int .i64 a228) (B0 : Below ws.heap.size ws w0) (h : laws_FnChangeGiven.l41 k n l1 l5 a6 l7 a11 l15 b16 a19 a27 l226 a227 a228 = some r), AtHead Try.prog (lb (bl (srn 1 (sl (srn 1 (ct (srn 1 (sl (srn 14 laws_FnChangeGiven.B))))))))) (laws_FnChangeGiven.Q3 ws r) (fr 543 f0) w0 := by
 intro n
 induction n with
 | zero => intro f0 w0 A1 k1 l1 h1 q1 C1 A5 k5 l5 h5 q5 C5 a6 h6 A7 k7 l7 h7 q7 C7 a11 h11 A15 k15 l15 h15 q15 C15 b16 h16 a19 h19 a27 h27 A226 k226 l226 h226 q226 C226 a227 h227 a228 h228 B0 h; rw [laws_FnChangeGiven.l41] at h; cases h
 | succ n ih41 =>
  intro f0 w0 A1 k1 l1 h1 q1 C1 A5 k5 l5 h5 q5 C5 a6 h6 A7 k7 l7 h7 q7 C7 a11 h11 A15 k15 l15 h15 q15 C15 b16 h16 a19 h19 a27 h27 A226 k226 l226 h226 q226 C226 a227 h227 a228 h228 B0 h
  rw [laws_FnChangeGiven.l41] at h
  refine head_round ?_
  refine wp_seq ?_
  refine wp_region_lit ?_
  refine bi_ (v := .bool (decide (a228 < a227))) rfl rfl rfl rfl (go0 rfl) h228 h227 (i_lss rfl) ?_
  refine nilt ?_
  refine wp_seq ?_
  rcases ifs h with ⟨c42, h⟩ | ⟨c42, h⟩
  · refine cT ?_ (Eq.trans rfl (vb c42)) rfl
    refine wp_skip ?_
    refine then_n ?_
    refine wp_seq ?_
    refine wp_block ?_
    refine wp_seq ?_
    refine wp_region_lit ?_
    refine m0 (.int .i64 a228) rfl rfl rfl rfl h228 ?_
    obtain ⟨c43, h⟩ := ify h
    replace c43 := bnd c43
    obtain ⟨ad44, ead44, xad44⟩ := at_int_on C226 a228 c43.1 (by have := c43.2; omega)
    refine ix_ (q := a228) laws_FnChangeGiven.u24 laws_FnChangeGiven.z24 rfl rfl rfl rfl (go0 rfl) h226 h228 ead44 c43 ?_
    refine ld_ (v := .int .i64 (rd l226 a228)) rfl rfl rfl (go0 rfl) rfl (load_i laws_FnChangeGiven.u3 (xad44 _ (Below.refl _ _))) ?_
    refine a0 (.int .i64 a228) rfl rfl rfl rfl rfl ?_
    refine a0 (.int .i64 (rd l226 a228)) rfl rfl rfl rfl rfl ?_
    refine nilt ?_
    refine wp_region_lit ?_
    refine m0 (.int .i64 a27) rfl rfl rfl rfl h27 ?_
    refine m0 (.int .i64 (rd l226 a228)) rfl rfl rfl rfl rfl ?_
    refine m0 (.slice A5 l5.length k5) rfl rfl rfl rfl h5 ?_
    refine m0 (.int .i64 a228) rfl rfl rfl rfl rfl ?_
    obtain ⟨c45, h⟩ := ify h
    replace c45 := bnd c45
    obtain ⟨ad46, ead46, xad46⟩ := at_int_on C5 a228 c45.1 (by have := c45.2; omega)
    refine ix_ (q := a228) laws_FnChangeGiven.u24 laws_FnChangeGiven.z24 rfl rfl rfl rfl (go0 rfl) rfl rfl ead46 c45 ?_
    refine ld_ (v := .int .i64 (rd l5 a228)) rfl rfl rfl (go0 rfl) rfl (load_i laws_FnChangeGiven.u3 (xad46 _ (Below.refl _ _))) ?_
    refine bi_ (v := .int .i64 (wrap64 ((rd l226 a228) * (rd l5 a228)))) rfl rfl rfl rfl (go0 rfl) rfl rfl (i_mul rfl) ?_
    refine bi_ (v := .int .i64 (wrap64 (a27 + (wrap64 ((rd l226 a228) * (rd l5 a228)))))) rfl rfl rfl rfl (go0 rfl) rfl rfl (i_add rfl) ?_
    refine a0 (.int .i64 (wrap64 (a27 + (wrap64 ((rd l226 a228) * (rd l5 a228)))))) rfl rfl rfl rfl rfl ?_
    refine wpList_nil ?_
    refine blk_n ?_
    refine then_n ?_
    exact laws_FnChangeGiven.w47 k r ws (laws_FnChangeGiven.l41 k n) ih41 _ _ A1 k1 l1 h1 q1 C1 A5 k5 l5 h5 q5 C5 a6 h6 A7 k7 l7 h7 q7 C7 a11 h11 A15 k15 l15 h15 q15 C15 b16 h16 a19 h19 (wrap64 (a27 + (wrap64 ((rd l226 a228) * (rd l5 a228))))) rfl A226 k226 l226 h226 q226 C226 a227 h227 a228 h228 B0 h
  refine cF ?_ (Eq.trans rfl (vb c42)) rfl
  refine wp_exit ?_
  refine then_x ?_
  refine then_x ?_
  refine blk_x ?_
  refine then_n ?_
  exact laws_FnChangeGiven.w48 k r ws _ _ A1 k1 l1 h1 q1 C1 A5 k5 l5 h5 q5 C5 a6 h6 A7 k7 l7 h7 q7 C7 a11 h11 A15 k15 l15 h15 q15 C15 b16 h16 a19 h19 a27 h27 B0 h
def laws_FnChangeGiven.p10 (k : Nat) (l1 : List Int) (l5 : List Int) (a6 : Int) (l7 : List Int) (b8 : Bool) (l9 : List Int) (b10 : Bool) (a11 : Int) (b12 : Bool) (a13 : Int) (b14 : Bool) (l15 : List Int) (b16 : Bool) : Option Bool := (spec_GreedyChange.f k l5 a6).bind fun t11 => (impl_GreedyCount.f k l5 a6).bind fun t12 => (spec_GreedyCount.f k l5 a6).bind fun t13 => (impl_CountChange.f k l5 a6).bind fun t14 => (spec_CountChange.f k l5 a6).bind fun t15 => if (b8 != b10) = true then none else (laws_tSame.f k l7 l9).bind fun r17_0 => if (!r17_0) = true then none else if (b12 != b14) = true then none else if (a11 != a13) = true then none else if (b16 != t11.2) = true then none else (laws_tSame.f k l15 t11.1).bind fun r22_0 => if (!r22_0) = true then none else if (t12.2 != t13.2) = true then none else if (t12.1 != t13.1) = true then none else if (t14.2 != t15.2) = true then none else if (t14.1 != t15.1) = true then none else if (b12 != b8) = true then none else if (t12.2 != b16) = true then none else (if b16 = true then (some (!b8)) else (some false)).bind fun d30 => if d30 = true then none else (if t14.2 = true then (some ((decide (0 < t14.1)) != b8)) else (some false)).bind fun d32 => if d32 = true then none else (impl_AreCoins.f k l5).bind fun r34_0 => (spec_AreCoins.f k l5).bind fun r35_0 => if (r34_0 != r35_0) = true then none else (if b8 = true then ((impl_AreCoins.f k l5).bind fun r39_0 => some (!r39_0)) else (some false)).bind fun d37 => if d37 = true then none else if b8 = true then (laws_FnChangeGiven.l41 k k l1 l5 a6 l7 a11 l15 b16 t12.1 0 l7 (l7.length : Int) 0) else (laws_FnChangeGiven.p81 k l1)
theorem laws_FnChangeGiven.w10 (k : Nat) (r : Bool) (ws : World) (f0 : Nat → Value) (w0 : World) (A1 : Option Addr) (k1 : Nat) (l1 : List Int) (h1 : f0 1 = .slice A1 l1.length k1) (q1 : l1.length ≤ k1) (C1 : On w0 fun x => Kd.C (Kd.int .u8) x A1 l1.length l1) (A5 : Option Addr) (k5 : Nat) (l5 : List Int) (h5 : f0 5 = .slice A5 l5.length k5) (q5 : l5.length ≤ k5) (C5 : On w0 fun x => Kd.C (Kd.int .i64) x A5 l5.length l5) (a6 : Int) (h6 : f0 6 = .int .i64 a6) (A7 : Option Addr) (k7 : Nat) (l7 : List Int) (h7 : f0 7 = .slice A7 l7.length k7) (q7 : l7.length ≤ k7) (C7 : On w0 fun x => Kd.C (Kd.int .i64) x A7 l7.length l7) (b8 : Bool) (h8 : f0 8 = .bool b8) (A9 : Option Addr) (k9 : Nat) (l9 : List Int) (h9 : f0 9 = .slice A9 l9.length k9) (q9 : l9.length ≤ k9) (C9 : On w0 fun x => Kd.C (Kd.int .i64) x A9 l9.length l9) (b10 : Bool) (h10 : f0 10 = .bool b10) (a11 : Int) (h11 : f0 11 = .int .i64 a11) (b12 : Bool) (h12 : f0 12 = .bool b12) (a13 : Int) (h13 : f0 13 = .int .i64 a13) (b14 : Bool) (h14 : f0 14 = .bool b14) (A15 : Option Addr) (k15 : Nat) (l15 : List Int) (h15 : f0 15 = .slice A15 l15.length k15) (q15 : l15.length ≤ k15) (C15 : On w0 fun x => Kd.C (Kd.int .i64) x A15 l15.length l15) (b16 : Bool) (h16 : f0 16 = .bool b16) (B0 : Below ws.heap.size ws w0) (h : laws_FnChangeGiven.p10 k l1 l5 a6 l7 b8 l9 b10 a11 b12 a13 b14 l15 b16 = some r) : Code.wp Try.prog (srn 8 laws_FnChangeGiven.B) (laws_FnChangeGiven.Q0 ws r) (fr 543 f0) w0 := by
 unfold laws_FnChangeGiven.p10 at h
 refine wp_seq ?_
 refine wp_region_lit ?_
 refine m0 (.slice A5 l5.length k5) rfl rfl rfl rfl h5 ?_
 refine m0 (.int .i64 a6) rfl rfl rfl rfl h6 ?_
 obtain ⟨⟨r11_1, r11_2⟩, e11, h⟩ := bind_ h
 refine cl_ Try.func14 (by kernel_rfl) rfl rfl rfl rfl (go0 rfl) (argc (v := .slice A5 l5.length k5) rfl (argc (v := .int .i64 a6) rfl argn)) ?_
 refine (spec_GreedyChange.calls k A5 k5 l5 a6 _ _ _ (C5 _ (Below.refl _ _)) q5 e11).mono ?_
 rintro e w11 ⟨u11_0, rfl, ou11_0, bb11⟩
 obtain ⟨Au11_0, ku11_0, xu11_0, qu11_0, Cu11_0⟩ := R3 ou11_0; subst xu11_0
 refine ⟨_, rfl, ?_⟩
 refine m0 (.tuple #[.slice Au11_0 r11_1.length ku11_0, .bool r11_2]) rfl rfl rfl rfl rfl ?_
 refine x0 (.slice Au11_0 r11_1.length ku11_0) rfl rfl rfl rfl rfl rfl ?_
 refine x0 (.bool r11_2) rfl rfl rfl rfl rfl rfl ?_
 refine a0 (.slice Au11_0 r11_1.length ku11_0) rfl rfl rfl rfl rfl ?_
 refine a0 (.bool r11_2) rfl rfl rfl rfl rfl ?_
 refine nilt ?_
 refine wp_seq ?_
 refine wp_region_lit ?_
 refine m0 (.slice A5 l5.length k5) rfl rfl rfl rfl h5 ?_
 refine m0 (.int .i64 a6) rfl rfl rfl rfl h6 ?_
 obtain ⟨⟨r12_1, r12_2⟩, e12, h⟩ := bind_ h
 refine cl_ Try.func15 (by kernel_rfl) rfl rfl rfl rfl (go0 rfl) (argc (v := .slice A5 l5.length k5) rfl (argc (v := .int .i64 a6) rfl argn)) ?_
 refine (impl_GreedyCount.calls k A5 k5 l5 a6 _ _ _ (C5 _ bb11) q5 e12).mono ?_
 rintro e w12 ⟨rfl, bb12⟩
 refine ⟨_, rfl, ?_⟩
 refine m0 (.tuple #[.int .i64 r12_1, .bool r12_2]) rfl rfl rfl rfl rfl ?_
 refine x0 (.int .i64 r12_1) rfl rfl rfl rfl rfl rfl ?_
 refine x0 (.bool r12_2) rfl rfl rfl rfl rfl rfl ?_
 refine a0 (.int .i64 r12_1) rfl rfl rfl rfl rfl ?_
 refine a0 (.bool r12_2) rfl rfl rfl rfl rfl ?_
 refine nilt ?_
 refine wp_seq ?_
 refine wp_region_lit ?_
 refine m0 (.slice A5 l5.length k5) rfl rfl rfl rfl h5 ?_
 refine m0 (.int .i64 a6) rfl rfl rfl rfl h6 ?_
 obtain ⟨⟨r13_1, r13_2⟩, e13, h⟩ := bind_ h
 refine cl_ Try.func16 (by kernel_rfl) rfl rfl rfl rfl (go0 rfl) (argc (v := .slice A5 l5.length k5) rfl (argc (v := .int .i64 a6) rfl argn)) ?_
 refine (spec_GreedyCount.calls k A5 k5 l5 a6 _ _ _ (C5 _ (below_step bb11 bb12)) q5 e13).mono ?_
 rintro e w13 ⟨rfl, bb13⟩
 refine ⟨_, rfl, ?_⟩
 refine m0 (.tuple #[.int .i64 r13_1, .bool r13_2]) rfl rfl rfl rfl rfl ?_
 refine x0 (.int .i64 r13_1) rfl rfl rfl rfl rfl rfl ?_
 refine x0 (.bool r13_2) rfl rfl rfl rfl rfl rfl ?_
 refine a0 (.int .i64 r13_1) rfl rfl rfl rfl rfl ?_
 refine a0 (.bool r13_2) rfl rfl rfl rfl rfl ?_
 refine nilt ?_
 refine wp_seq ?_
 refine wp_region_lit ?_
 refine m0 (.slice A5 l5.length k5) rfl rfl rfl rfl h5 ?_
 refine m0 (.int .i64 a6) rfl rfl rfl rfl h6 ?_
 obtain ⟨⟨r14_1, r14_2⟩, e14, h⟩ := bind_ h
 refine cl_ Try.func17 (by kernel_rfl) rfl rfl rfl rfl (go0 rfl) (argc (v := .slice A5 l5.length k5) rfl (argc (v := .int .i64 a6) rfl argn)) ?_
 refine (impl_CountChange.calls k A5 k5 l5 a6 _ _ _ (C5 _ (below_step (below_step bb11 bb12) bb13)) q5 e14).mono ?_
 rintro e w14 ⟨rfl, bb14⟩
 refine ⟨_, rfl, ?_⟩
 refine m0 (.tuple #[.int .i64 r14_1, .bool r14_2]) rfl rfl rfl rfl rfl ?_
 refine x0 (.int .i64 r14_1) rfl rfl rfl rfl rfl rfl ?_
 refine x0 (.bool r14_2) rfl rfl rfl rfl rfl rfl ?_
 refine a0 (.int .i64 r14_1) rfl rfl rfl rfl rfl ?_
 refine a0 (.bool r14_2) rfl rfl rfl rfl rfl ?_
 refine nilt ?_
 refine wp_seq ?_
 refine wp_region_lit ?_
 refine m0 (.slice A5 l5.length k5) rfl rfl rfl rfl h5 ?_
 refine m0 (.int .i64 a6) rfl rfl rfl rfl h6 ?_
 obtain ⟨⟨r15_1, r15_2⟩, e15, h⟩ := bind_ h
 refine cl_ Try.func18 (by kernel_rfl) rfl rfl rfl rfl (go0 rfl) (argc (v := .slice A5 l5.length k5) rfl (argc (v := .int .i64 a6) rfl argn)) ?_
 refine (spec_CountChange.calls k A5 k5 l5 a6 _ _ _ (C5 _ (below_step (below_step (below_step bb11 bb12) bb13) bb14)) q5 e15).mono ?_
 rintro e w15 ⟨rfl, bb15⟩
 refine ⟨_, rfl, ?_⟩
 refine m0 (.tuple #[.int .i64 r15_1, .bool r15_2]) rfl rfl rfl rfl rfl ?_
 refine x0 (.int .i64 r15_1) rfl rfl rfl rfl rfl rfl ?_
 refine x0 (.bool r15_2) rfl rfl rfl rfl rfl rfl ?_
 refine a0 (.int .i64 r15_1) rfl rfl rfl rfl rfl ?_
 refine a0 (.bool r15_2) rfl rfl rfl rfl rfl ?_
 refine nilt ?_
 refine wp_seq ?_
 refine wp_seq ?_
 refine wp_region_lit ?_
 refine m0 (.bool b8) rfl rfl rfl rfl h8 ?_
 refine m0 (.bool b10) rfl rfl rfl rfl h10 ?_
 obtain ⟨c16, h⟩ := ifn h
 refine bb_ (v := .bool (false)) rfl rfl rfl rfl (go0 rfl) rfl rfl (b_neq laws_FnChangeGiven.u4 c16) ?_
 refine m0 (.bool false) rfl rfl rfl rfl rfl ?_
 refine mv_ (v := .slice A7 l7.length k7) rfl rfl rfl (go1 (j := 3) (t := 137) rfl (by kernel_rfl) rfl rfl) h7 ?_
 refine mv_ (v := .slice A9 l9.length k9) rfl rfl rfl (go1 (j := 3) (t := 137) rfl (by kernel_rfl) rfl rfl) h9 ?_
 obtain ⟨r17_0, e17, h⟩ := bind_ h
 refine cl_ Try.func19 (by kernel_rfl) rfl rfl rfl rfl (go1 (j := 3) (t := 137) rfl (by kernel_rfl) rfl rfl) (argc (v := .slice A7 l7.length k7) rfl (argc (v := .slice A9 l9.length k9) rfl argn)) ?_
 refine (laws_tSame.calls k A7 k7 l7 A9 k9 l9 _ _ (C7 _ (below_step (below_step (below_step (below_step bb11 bb12) bb13) bb14) bb15)) q7 (C9 _ (below_step (below_step (below_step (below_step bb11 bb12) bb13) bb14) bb15)) q9 e17).mono ?_
 rintro e w17 ⟨rfl, d17⟩
 have bb17 := Drawn0.below d17
 refine ⟨_, rfl, ?_⟩
 obtain ⟨c18, h⟩ := ifn h
 refine nt_ (c := false) rfl rfl rfl (go1 (j := 3) (t := 137) rfl (by kernel_rfl) rfl rfl) rfl c18 ?_
 refine pk_ (b := false) (v := .bool false) rfl rfl rfl rfl rfl (go0 rfl) rfl rfl ?_
 refine m0 (.bool false) rfl rfl rfl rfl rfl ?_
 refine mv_ (v := .bool b12) rfl rfl rfl (go1 (j := 9) (t := 143) rfl (by kernel_rfl) rfl rfl) h12 ?_
 refine mv_ (v := .bool b14) rfl rfl rfl (go1 (j := 9) (t := 143) rfl (by kernel_rfl) rfl rfl) h14 ?_
 obtain ⟨c19, h⟩ := ifn h
 refine bb_ (v := .bool (false)) rfl rfl rfl rfl (go1 (j := 9) (t := 143) rfl (by kernel_rfl) rfl rfl) rfl rfl (b_neq laws_FnChangeGiven.u4 c19) ?_
 refine pk_ (b := false) (v := .bool false) rfl rfl rfl rfl rfl (go0 rfl) rfl rfl ?_
 refine m0 (.bool false) rfl rfl rfl rfl rfl ?_
 refine mv_ (v := .int .i64 a11) rfl rfl rfl (go1 (j := 14) (t := 148) rfl (by kernel_rfl) rfl rfl) h11 ?_
 refine mv_ (v := .int .i64 a13) rfl rfl rfl (go1 (j := 14) (t := 148) rfl (by kernel_rfl) rfl rfl) h13 ?_
 obtain ⟨c20, h⟩ := ifn h
 refine bi_ (v := .bool (false)) rfl rfl rfl rfl (go1 (j := 14) (t := 148) rfl (by kernel_rfl) rfl rfl) rfl rfl (i_neq c20) ?_
 refine pk_ (b := false) (v := .bool false) rfl rfl rfl rfl rfl (go0 rfl) rfl rfl ?_
 refine m0 (.bool false) rfl rfl rfl rfl rfl ?_
 refine mv_ (v := .bool b16) rfl rfl rfl (go1 (j := 19) (t := 153) rfl (by kernel_rfl) rfl rfl) h16 ?_
 refine mv_ (v := .bool r11_2) rfl rfl rfl (go1 (j := 19) (t := 153) rfl (by kernel_rfl) rfl rfl) rfl ?_
 obtain ⟨c21, h⟩ := ifn h
 refine bb_ (v := .bool (false)) rfl rfl rfl rfl (go1 (j := 19) (t := 153) rfl (by kernel_rfl) rfl rfl) rfl rfl (b_neq laws_FnChangeGiven.u4 c21) ?_
 refine pk_ (b := false) (v := .bool false) rfl rfl rfl rfl rfl (go0 rfl) rfl rfl ?_
 refine m0 (.bool false) rfl rfl rfl rfl rfl ?_
 refine mv_ (v := .slice A15 l15.length k15) rfl rfl rfl (go1 (j := 24) (t := 158) rfl (by kernel_rfl) rfl rfl) h15 ?_
 refine mv_ (v := .slice Au11_0 r11_1.length ku11_0) rfl rfl rfl (go1 (j := 24) (t := 158) rfl (by kernel_rfl) rfl rfl) rfl ?_
 obtain ⟨r22_0, e22, h⟩ := bind_ h
 refine cl_ Try.func19 (by kernel_rfl) rfl rfl rfl rfl (go1 (j := 24) (t := 158) rfl (by kernel_rfl) rfl rfl) (argc (v := .slice A15 l15.length k15) rfl (argc (v := .slice Au11_0 r11_1.length ku11_0) rfl argn)) ?_
 refine (laws_tSame.calls k A15 k15 l15 Au11_0 ku11_0 r11_1 _ _ (C15 _ (below_step (below_step (below_step (below_step (below_step bb11 bb12) bb13) bb14) bb15) bb17)) q15 (Cu11_0 _ (below_step (below_step (below_step (below_step bb12 bb13) bb14) bb15) bb17)) qu11_0 e22).mono ?_
 rintro e w22 ⟨rfl, d22⟩
 have bb22 := Drawn0.below d22
 refine ⟨_, rfl, ?_⟩
 obtain ⟨c23, h⟩ := ifn h
 refine nt_ (c := false) rfl rfl rfl (go1 (j := 24) (t := 158) rfl (by kernel_rfl) rfl rfl) rfl c23 ?_
 refine pk_ (b := false) (v := .bool false) rfl rfl rfl rfl rfl (go0 rfl) rfl rfl ?_
 refine m0 (.bool false) rfl rfl rfl rfl rfl ?_
 refine mv_ (v := .bool r12_2) rfl rfl rfl (go1 (j := 30) (t := 164) rfl (by kernel_rfl) rfl rfl) rfl ?_
 refine mv_ (v := .bool r13_2) rfl rfl rfl (go1 (j := 30) (t := 164) rfl (by kernel_rfl) rfl rfl) rfl ?_
 obtain ⟨c24, h⟩ := ifn h
 refine bb_ (v := .bool (false)) rfl rfl rfl rfl (go1 (j := 30) (t := 164) rfl (by kernel_rfl) rfl rfl) rfl rfl (b_neq laws_FnChangeGiven.u4 c24) ?_
 refine pk_ (b := false) (v := .bool false) rfl rfl rfl rfl rfl (go0 rfl) rfl rfl ?_
 refine m0 (.bool false) rfl rfl rfl rfl rfl ?_
 refine mv_ (v := .int .i64 r12_1) rfl rfl rfl (go1 (j := 35) (t := 169) rfl (by kernel_rfl) rfl rfl) rfl ?_
 refine mv_ (v := .int .i64 r13_1) rfl rfl rfl (go1 (j := 35) (t := 169) rfl (by kernel_rfl) rfl rfl) rfl ?_
 obtain ⟨c25, h⟩ := ifn h
 refine bi_ (v := .bool (false)) rfl rfl rfl rfl (go1 (j := 35) (t := 169) rfl (by kernel_rfl) rfl rfl) rfl rfl (i_neq c25) ?_
 refine pk_ (b := false) (v := .bool false) rfl rfl rfl rfl rfl (go0 rfl) rfl rfl ?_
 refine m0 (.bool false) rfl rfl rfl rfl rfl ?_
 refine mv_ (v := .bool r14_2) rfl rfl rfl (go1 (j := 40) (t := 174) rfl (by kernel_rfl) rfl rfl) rfl ?_
 refine mv_ (v := .bool r15_2) rfl rfl rfl (go1 (j := 40) (t := 174) rfl (by kernel_rfl) rfl rfl) rfl ?_
 obtain ⟨c26, h⟩ := ifn h
 refine bb_ (v := .bool (false)) rfl rfl rfl rfl (go1 (j := 40) (t := 174) rfl (by kernel_rfl) rfl rfl) rfl rfl (b_neq laws_FnChangeGiven.u4 c26) ?_
 refine pk_ (b := false) (v := .bool false) rfl rfl rfl rfl rfl (go0 rfl) rfl rfl ?_
 refine m0 (.bool false) rfl rfl rfl rfl rfl ?_
 refine mv_ (v := .int .i64 r14_1) rfl rfl rfl (go1 (j := 45) (t := 179) rfl (by kernel_rfl) rfl rfl) rfl ?_
 refine mv_ (v := .int .i64 r15_1) rfl rfl rfl (go1 (j := 45) (t := 179) rfl (by kernel_rfl) rfl rfl) rfl ?_
 obtain ⟨c27, h⟩ := ifn h
 refine bi_ (v := .bool (false)) rfl rfl rfl rfl (go1 (j := 45) (t := 179) rfl (by kernel_rfl) rfl rfl) rfl rfl (i_neq c27) ?_
 refine pk_ (b := false) (v := .bool false) rfl rfl rfl rfl rfl (go0 rfl) rfl rfl ?_
 refine m0 (.bool false) rfl rfl rfl rfl rfl ?_
 refine mv_ (v := .bool b12) rfl rfl rfl (go1 (j := 50) (t := 184) rfl (by kernel_rfl) rfl rfl) h12 ?_
 refine mv_ (v := .bool b8) rfl rfl rfl (go1 (j := 50) (t := 184) rfl (by kernel_rfl) rfl rfl) h8 ?_
 obtain ⟨c28, h⟩ := ifn h
 refine bb_ (v := .bool (false)) rfl rfl rfl rfl (go1 (j := 50) (t := 184) rfl (by kernel_rfl) rfl rfl) rfl rfl (b_neq laws_FnChangeGiven.u4 c28) ?_
 refine pk_ (b := false) (v := .bool false) rfl rfl rfl rfl rfl (go0 rfl) rfl rfl ?_
 refine m0 (.bool false) rfl rfl rfl rfl rfl ?_
 refine mv_ (v := .bool r12_2) rfl rfl rfl (go1 (j := 55) (t := 189) rfl (by kernel_rfl) rfl rfl) rfl ?_
 refine mv_ (v := .bool b16) rfl rfl rfl (go1 (j := 55) (t := 189) rfl (by kernel_rfl) rfl rfl) h16 ?_
 obtain ⟨c29, h⟩ := ifn h
 refine bb_ (v := .bool (false)) rfl rfl rfl rfl (go1 (j := 55) (t := 189) rfl (by kernel_rfl) rfl rfl) rfl rfl (b_neq laws_FnChangeGiven.u4 c29) ?_
 refine pk_ (b := false) (v := .bool false) rfl rfl rfl rfl rfl (go0 rfl) rfl rfl ?_
 refine m0 (.bool false) rfl rfl rfl rfl rfl ?_
 refine mv_ (v := .bool b16) rfl rfl rfl (go1 (j := 60) (t := 194) rfl (by kernel_rfl) rfl rfl) h16 ?_
 refine mv_ (v := .bool b16) rfl rfl rfl (go1 (j := 60) (t := 194) rfl (by kernel_rfl) rfl rfl) rfl ?_
 obtain ⟨d30, e30, h⟩ := bind_ h
 replace h := ifn h
 obtain ⟨y30, h⟩ := h
 subst y30
 refine cut_ 3 (fun f g w' => Same 66 f g ∧ g 199 = .bool false ∧ g 194 = .bool false ∧ Below w22.heap.size w22 w') ?_ ?_
 · clear h; have h := e30; clear e30
   rcases ifs h with ⟨c31, h⟩ | ⟨c31, h⟩
   · refine mv_ (v := .bool b8) rfl rfl rfl (go1 (j := 62) (t := 196) rfl (by kernel_rfl) rfl (Eq.trans rfl (vb c31))) h8 ?_
     refine nt_ (c := !b8) rfl rfl rfl (go1 (j := 62) (t := 196) rfl (by kernel_rfl) rfl (Eq.trans rfl (vb c31))) rfl rfl ?_
     refine pk_ (b := true) (v := .bool (!b8)) rfl rfl rfl rfl rfl (go1 (j := 60) (t := 194) rfl (by kernel_rfl) rfl rfl) (Eq.trans rfl (vb c31)) rfl ?_
     refine wpList_nil ?_
     exact then_n ⟨_, rfl, (Same.put (Same.put (Same.put (Same.refl _ _) rfl) rfl) rfl), (Eq.trans rfl (vb (Option.some.inj h))), rfl, (Below.refl _ _)⟩
   refine skp (no1 (j := 62) (t := 196) rfl (by kernel_rfl) rfl (Eq.trans rfl (vb c31)) rfl) rfl ?_
   refine skp (no1 (j := 62) (t := 196) rfl (by kernel_rfl) rfl (Eq.trans rfl (vb c31)) rfl) rfl ?_
   refine pk_ (b := false) (v := .bool false) rfl rfl rfl rfl rfl (go1 (j := 60) (t := 194) rfl (by kernel_rfl) rfl rfl) (Eq.trans rfl (vb c31)) rfl ?_
   refine wpList_nil ?_
   exact then_n ⟨_, rfl, (Same.put (Same.put (Same.put (Same.refl _ _) rfl) rfl) rfl), (Eq.trans rfl (vb (Option.some.inj h))), rfl, (Below.refl _ _)⟩
 clear e30; rintro g30 w30 ⟨S30, x30_199, x30_194, bb30⟩
 refine pk_ (b := false) (v := .bool false) rfl rfl rfl rfl rfl (go0 rfl) x30_194 x30_199 ?_
 refine m0 (.bool false) rfl rfl rfl rfl rfl ?_
 refine mv_ (v := .bool r14_2) rfl rfl rfl (go1 (j := 67) (t := 201) rfl (by kernel_rfl) rfl rfl) (Eq.trans (S30 24 rfl) rfl) ?_
 refine mv_ (v := .bool r14_2) rfl rfl rfl (go1 (j := 67) (t := 201) rfl (by kernel_rfl) rfl rfl) rfl ?_
 obtain ⟨d32, e32, h⟩ := bind_ h
 replace h := ifn h
 obtain ⟨y32, h⟩ := h
 subst y32
 refine cut_ 5 (fun f g w' => Same 66 f g ∧ g 208 = .bool false ∧ g 201 = .bool false ∧ Below w30.heap.size w30 w') ?_ ?_
 · clear h; have h := e32; clear e32
   rcases ifs h with ⟨c33, h⟩ | ⟨c33, h⟩
   · refine mv_ (v := .int .i64 r14_1) rfl rfl rfl (go1 (j := 69) (t := 203) rfl (by kernel_rfl) rfl (Eq.trans rfl (vb c33))) (Eq.trans (S30 23 rfl) rfl) ?_
     refine bi_ (v := .bool (decide (0 < r14_1))) rfl rfl rfl rfl (go1 (j := 69) (t := 203) rfl (by kernel_rfl) rfl (Eq.trans rfl (vb c33))) rfl rfl (i_gtr rfl) ?_
     refine mv_ (v := .bool b8) rfl rfl rfl (go1 (j := 69) (t := 203) rfl (by kernel_rfl) rfl (Eq.trans rfl (vb c33))) (Eq.trans (S30 8 rfl) h8) ?_
     refine bb_ (v := .bool (((decide (0 < r14_1)) != b8))) rfl rfl rfl rfl (go1 (j := 69) (t := 203) rfl (by kernel_rfl) rfl (Eq.trans rfl (vb c33))) rfl rfl (b_neq laws_FnChangeGiven.u4 rfl) ?_
     refine pk_ (b := true) (v := .bool ((decide (0 < r14_1)) != b8)) rfl rfl rfl rfl rfl (go1 (j := 67) (t := 201) rfl (by kernel_rfl) rfl rfl) (Eq.trans rfl (vb c33)) rfl ?_
     refine wpList_nil ?_
     exact then_n ⟨_, rfl, (Same.put (Same.put (Same.put (Same.put (Same.put (Same.refl _ _) rfl) rfl) rfl) rfl) rfl), (Eq.trans rfl (vb (Option.some.inj h))), rfl, (Below.refl _ _)⟩
   refine skp (no1 (j := 69) (t := 203) rfl (by kernel_rfl) rfl (Eq.trans rfl (vb c33)) rfl) rfl ?_
   refine skp (no1 (j := 69) (t := 203) rfl (by kernel_rfl) rfl (Eq.trans rfl (vb c33)) rfl) rfl ?_
   refine skp (no1 (j := 69) (t := 203) rfl (by kernel_rfl) rfl (Eq.trans rfl (vb c33)) rfl) rfl ?_
   refine skp (no1 (j := 69) (t := 203) rfl (by kernel_rfl) rfl (Eq.trans rfl (vb c33)) rfl) rfl ?_
   refine pk_ (b := false) (v := .bool false) rfl rfl rfl rfl rfl (go1 (j := 67) (t := 201) rfl (by kernel_rfl) rfl rfl) (Eq.trans rfl (vb c33)) rfl ?_
   refine wpList_nil ?_
   exact then_n ⟨_, rfl, (Same.put (Same.put (Same.put (Same.put (Same.put (Same.refl _ _) rfl) rfl) rfl) rfl) rfl), (Eq.trans rfl (vb (Option.some.inj h))), rfl, (Below.refl _ _)⟩
 clear e32; rintro g32 w32 ⟨S32, x32_208, x32_201, bb32⟩
 refine pk_ (b := false) (v := .bool false) rfl rfl rfl rfl rfl (go0 rfl) x32_201 x32_208 ?_
 refine m0 (.bool false) rfl rfl rfl rfl rfl ?_
 refine mv_ (v := .slice A5 l5.length k5) rfl rfl rfl (go1 (j := 76) (t := 210) rfl (by kernel_rfl) rfl rfl) (Eq.trans (S32 5 rfl) (Eq.trans (S30 5 rfl) h5)) ?_
 obtain ⟨r34_0, e34, h⟩ := bind_ h
 refine cl_ Try.func20 (by kernel_rfl) rfl rfl rfl rfl (go1 (j := 76) (t := 210) rfl (by kernel_rfl) rfl rfl) (argc (v := .slice A5 l5.length k5) rfl argn) ?_
 refine (impl_AreCoins.calls k A5 k5 l5 _ _ (C5 _ (below_step (below_step (below_step (below_step (below_step (below_step (below_step (below_step bb11 bb12) bb13) bb14) bb15) bb17) bb22) bb30) bb32)) q5 e34).mono ?_
 rintro e w34 ⟨rfl, bb34⟩
 refine ⟨_, rfl, ?_⟩
 refine mv_ (v := .slice A5 l5.length k5) rfl rfl rfl (go1 (j := 76) (t := 210) rfl (by kernel_rfl) rfl rfl) (Eq.trans (S32 5 rfl) (Eq.trans (S30 5 rfl) h5)) ?_
 obtain ⟨r35_0, e35, h⟩ := bind_ h
 refine cl_ Try.func21 (by kernel_rfl) rfl rfl rfl rfl (go1 (j := 76) (t := 210) rfl (by kernel_rfl) rfl rfl) (argc (v := .slice A5 l5.length k5) rfl argn) ?_
 refine (spec_AreCoins.calls k A5 k5 l5 _ _ (C5 _ (below_step (below_step (below_step (below_step (below_step (below_step (below_step (below_step (below_step bb11 bb12) bb13) bb14) bb15) bb17) bb22) bb30) bb32) bb34)) q5 e35).mono ?_
 rintro e w35 ⟨rfl, d35⟩
 have bb35 := Drawn0.below d35
 refine ⟨_, rfl, ?_⟩
 obtain ⟨c36, h⟩ := ifn h
 refine bb_ (v := .bool (false)) rfl rfl rfl rfl (go1 (j := 76) (t := 210) rfl (by kernel_rfl) rfl rfl) rfl rfl (b_neq laws_FnChangeGiven.u4 c36) ?_
 refine pk_ (b := false) (v := .bool false) rfl rfl rfl rfl rfl (go0 rfl) rfl rfl ?_
 refine m0 (.bool false) rfl rfl rfl rfl rfl ?_
 refine mv_ (v := .bool b8) rfl rfl rfl (go1 (j := 83) (t := 217) rfl (by kernel_rfl) rfl rfl) (Eq.trans (S32 8 rfl) (Eq.trans (S30 8 rfl) h8)) ?_
 refine mv_ (v := .bool b8) rfl rfl rfl (go1 (j := 83) (t := 217) rfl (by kernel_rfl) rfl rfl) rfl ?_
 obtain ⟨d37, e37, h⟩ := bind_ h
 replace h := ifn h
 obtain ⟨y37, h⟩ := h
 subst y37
 refine cut_ 4 (fun f g w' => Same 66 f g ∧ g 223 = .bool false ∧ g 217 = .bool false ∧ Below w35.heap.size w35 w') ?_ ?_
 · clear h; have h := e37; clear e37
   rcases ifs h with ⟨c38, h⟩ | ⟨c38, h⟩
   · refine mv_ (v := .slice A5 l5.length k5) rfl rfl rfl (go1 (j := 85) (t := 219) rfl (by kernel_rfl) rfl (Eq.trans rfl (vb c38))) (Eq.trans (S32 5 rfl) (Eq.trans (S30 5 rfl) h5)) ?_
     obtain ⟨r39_0, e39, h⟩ := bind_ h
     refine cl_ Try.func20 (by kernel_rfl) rfl rfl rfl rfl (go1 (j := 85) (t := 219) rfl (by kernel_rfl) rfl (Eq.trans rfl (vb c38))) (argc (v := .slice A5 l5.length k5) rfl argn) ?_
     refine (impl_AreCoins.calls k A5 k5 l5 _ _ (C5 _ (below_step (below_step (below_step (below_step (below_step (below_step (below_step (below_step (below_step (below_step bb11 bb12) bb13) bb14) bb15) bb17) bb22) bb30) bb32) bb34) bb35)) q5 e39).mono ?_
     rintro e w39 ⟨rfl, bb39⟩
     refine ⟨_, rfl, ?_⟩
     refine nt_ (c := !r39_0) rfl rfl rfl (go1 (j := 85) (t := 219) rfl (by kernel_rfl) rfl (Eq.trans rfl (vb c38))) rfl rfl ?_
     refine pk_ (b := true) (v := .bool (!r39_0)) rfl rfl rfl rfl rfl (go1 (j := 83) (t := 217) rfl (by kernel_rfl) rfl rfl) (Eq.trans rfl (vb c38)) rfl ?_
     refine wpList_nil ?_
     exact then_n ⟨_, rfl, (Same.put (Same.put (Same.put (Same.put (Same.refl _ _) rfl) rfl) rfl) rfl), (Eq.trans rfl (vb (Option.some.inj h))), rfl, bb39⟩
   refine skp (no1 (j := 85) (t := 219) rfl (by kernel_rfl) rfl (Eq.trans rfl (vb c38)) rfl) rfl ?_
   refine skp (no1 (j := 85) (t := 219) rfl (by kernel_rfl) rfl (Eq.trans rfl (vb c38)) rfl) rfl ?_
   refine skp (no1 (j := 85) (t := 219) rfl (by kernel_rfl) rfl (Eq.trans rfl (vb c38)) rfl) rfl ?_
   refine pk_ (b := false) (v := .bool false) rfl rfl rfl rfl rfl (go1 (j := 83) (t := 217) rfl (by kernel_rfl) rfl rfl) (Eq.trans rfl (vb c38)) rfl ?_
   refine wpList_nil ?_
   exact then_n ⟨_, rfl, (Same.put (Same.put (Same.put (Same.put (Same.refl _ _) rfl) rfl) rfl) rfl), (Eq.trans rfl (vb (Option.some.inj h))), rfl, (Below.refl _ _)⟩
 clear e37; rintro g37 w37 ⟨S37, x37_223, x37_217, bb37⟩
 refine pk_ (b := false) (v := .bool false) rfl rfl rfl rfl rfl (go0 rfl) x37_217 x37_223 ?_
 refine nilt ?_
 refine cF ?_ rfl rfl
 refine wp_skip ?_
 refine then_n ?_
 refine wp_seq ?_
 refine wp_seq ?_
 refine wp_region_lit ?_
 refine m0 (.bool b8) rfl rfl rfl rfl (Eq.trans (S37 8 rfl) (Eq.trans (S32 8 rfl) (Eq.trans (S30 8 rfl) h8))) ?_
 refine nilt ?_
 rcases ifs h with ⟨c40, h⟩ | ⟨c40, h⟩
 · refine cT ?_ (Eq.trans rfl (vb c40)) rfl
   refine wp_seq ?_
   refine wp_region_lit ?_
   refine a0 (.int .i64 0) rfl rfl rfl rfl rfl ?_
   refine nilt ?_
   refine wp_seq ?_
   refine wp_seq ?_
   refine wp_region_lit ?_
   refine m0 (.slice A7 l7.length k7) rfl rfl rfl rfl (Eq.trans (S37 7 rfl) (Eq.trans (S32 7 rfl) (Eq.trans (S30 7 rfl) h7))) ?_
   refine ln_ laws_FnChangeGiven.u24 rfl rfl rfl (go0 rfl) rfl ?_
   refine m0 (.int .i64 0) rfl rfl rfl rfl rfl ?_
   refine nilt ?_
   refine wp_block ?_
   exact head_loop (laws_FnChangeGiven.w41 k r ws k _ _ A1 k1 l1 (Eq.trans (S37 1 rfl) (Eq.trans (S32 1 rfl) (Eq.trans (S30 1 rfl) h1))) q1 (On.adv C1 (below_step (below_step (below_step (below_step (below_step (below_step (below_step (below_step (below_step (below_step (below_step bb11 bb12) bb13) bb14) bb15) bb17) bb22) bb30) bb32) bb34) bb35) bb37)) A5 k5 l5 (Eq.trans (S37 5 rfl) (Eq.trans (S32 5 rfl) (Eq.trans (S30 5 rfl) h5))) q5 (On.adv C5 (below_step (below_step (below_step (below_step (below_step (below_step (below_step (below_step (below_step (below_step (below_step bb11 bb12) bb13) bb14) bb15) bb17) bb22) bb30) bb32) bb34) bb35) bb37)) a6 (Eq.trans (S37 6 rfl) (Eq.trans (S32 6 rfl) (Eq.trans (S30 6 rfl) h6))) A7 k7 l7 (Eq.trans (S37 7 rfl) (Eq.trans (S32 7 rfl) (Eq.trans (S30 7 rfl) h7))) q7 (On.adv C7 (below_step (below_step (below_step (below_step (below_step (below_step (below_step (below_step (below_step (below_step (below_step bb11 bb12) bb13) bb14) bb15) bb17) bb22) bb30) bb32) bb34) bb35) bb37)) a11 (Eq.trans (S37 11 rfl) (Eq.trans (S32 11 rfl) (Eq.trans (S30 11 rfl) h11))) A15 k15 l15 (Eq.trans (S37 15 rfl) (Eq.trans (S32 15 rfl) (Eq.trans (S30 15 rfl) h15))) q15 (On.adv C15 (below_step (below_step (below_step (below_step (below_step (below_step (below_step (below_step (below_step (below_step (below_step bb11 bb12) bb13) bb14) bb15) bb17) bb22) bb30) bb32) bb34) bb35) bb37)) b16 (Eq.trans (S37 16 rfl) (Eq.trans (S32 16 rfl) (Eq.trans (S30 16 rfl) h16))) r12_1 (Eq.trans (S37 19 rfl) (Eq.trans (S32 19 rfl) (Eq.trans (S30 19 rfl) rfl))) 0 rfl A7 k7 l7 rfl q7 (On.adv C7 (below_step (below_step (below_step (below_step (below_step (below_step (below_step (below_step (below_step (below_step (below_step bb11 bb12) bb13) bb14) bb15) bb17) bb22) bb30) bb32) bb34) bb35) bb37)) (l7.length : Int) rfl 0 rfl (below_step B0 (below_step (below_step (below_step (below_step (below_step (below_step (below_step (below_step (below_step (below_step (below_step bb11 bb12) bb13) bb14) bb15) bb17) bb22) bb30) bb32) bb34) bb35) bb37)) h)
 refine cF ?_ (Eq.trans rfl (vb c40)) rfl
 refine wp_skip ?_
 refine then_n ?_
 exact laws_FnChangeGiven.w81 k r ws _ _ A1 k1 l1 (Eq.trans (S37 1 rfl) (Eq.trans (S32 1 rfl) (Eq.trans (S30 1 rfl) h1))) q1 (On.adv C1 (below_step (below_step (below_step (below_step (below_step (below_step (below_step (below_step (below_step (below_step (below_step bb11 bb12) bb13) bb14) bb15) bb17) bb22) bb30) bb32) bb34) bb35) bb37)) (below_step B0 (below_step (below_step (below_step (below_step (below_step (below_step (below_step (below_step (below_step (below_step (below_step bb11 bb12) bb13) bb14) bb15) bb17) bb22) bb30) bb32) bb34) bb35) bb37)) h
def laws_FnChangeGiven.p1 (k : Nat) (l0 : List Int) (l1 : List Int) : Option Bool := (laws_big.f l0 l1).bind fun r2_0 => if r2_0 = true then (some true) else ((spec_DrawBestChange.f k l0).bind fun t4 => (impl_BestChange.f k t4.1 t4.2).bind fun t5 => (spec_BestChange.f k t4.1 t4.2).bind fun t6 => (impl_FewestCoins.f k t4.1 t4.2).bind fun t7 => (spec_FewestCoins.f k t4.1 t4.2).bind fun t8 => (impl_GreedyChange.f k t4.1 t4.2).bind fun t9 => laws_FnChangeGiven.p10 k l1 t4.1 t4.2 t5.1 t5.2 t6.1 t6.2 t7.1 t7.2 t8.1 t8.2 t9.1 t9.2)
theorem laws_FnChangeGiven.w1 (k : Nat) (r : Bool) (ws : World) (f0 : Nat → Value) (w0 : World) (A0 : Option Addr) (k0 : Nat) (l0 : List Int) (h0 : f0 0 = .slice A0 l0.length k0) (q0 : l0.length ≤ k0) (C0 : On w0 fun x => Kd.C (Kd.int .u8) x A0 l0.length l0) (A1 : Option Addr) (k1 : Nat) (l1 : List Int) (h1 : f0 1 = .slice A1 l1.length k1) (q1 : l1.length ≤ k1) (C1 : On w0 fun x => Kd.C (Kd.int .u8) x A1 l1.length l1) (B0 : Below ws.heap.size ws w0) (h : laws_FnChangeGiven.p1 k l0 l1 = some r) : Code.wp Try.prog laws_FnChangeGiven.B (laws_FnChangeGiven.Q0 ws r) (fr 543 f0) w0 := by
 unfold laws_FnChangeGiven.p1 at h
 refine wp_seq ?_
 refine wp_region_lit ?_
 refine a0 (.bool false) rfl rfl rfl rfl rfl ?_
 refine nilt ?_
 refine wp_seq ?_
 refine wp_seq ?_
 refine wp_region_lit ?_
 refine m0 (.slice A0 l0.length k0) rfl rfl rfl rfl h0 ?_
 refine m0 (.slice A1 l1.length k1) rfl rfl rfl rfl h1 ?_
 obtain ⟨r2_0, e2, h⟩ := bind_ h
 refine cl_ Try.func7 (by kernel_rfl) rfl rfl rfl rfl (go0 rfl) (argc (v := .slice A0 l0.length k0) rfl (argc (v := .slice A1 l1.length k1) rfl argn)) ?_
 refine (laws_big.calls A0 k0 l0 A1 k1 l1 _ _ (C0 _ (Below.refl _ _)) q0 (C1 _ (Below.refl _ _)) q1 e2).mono ?_
 rintro e w2 ⟨rfl, d2⟩
 have bb2 := Drawn0.below d2
 refine ⟨_, rfl, ?_⟩
 refine nilt ?_
 rcases ifs h with ⟨c3, h⟩ | ⟨c3, h⟩
 · refine cT ?_ (Eq.trans rfl (vb c3)) rfl
   refine wp_seq ?_
   refine wp_region_lit ?_
   refine a0 (.bool true) rfl rfl rfl rfl rfl ?_
   refine nilt ?_
   refine wp_ret ?_
   refine then_r ?_
   exact leave rfl rfl rfl ⟨rb (Option.some.inj h), (below_step B0 bb2)⟩
 refine cF ?_ (Eq.trans rfl (vb c3)) rfl
 refine wp_skip ?_
 refine then_n ?_
 refine wp_seq ?_
 refine wp_region_lit ?_
 refine m0 (.slice A0 l0.length k0) rfl rfl rfl rfl h0 ?_
 obtain ⟨⟨r4_1, r4_2⟩, e4, h⟩ := bind_ h
 refine cl_ Try.func8 (by kernel_rfl) rfl rfl rfl rfl (go0 rfl) (argc (v := .slice A0 l0.length k0) rfl argn) ?_
 refine (spec_DrawBestChange.calls k A0 k0 l0 _ _ _ (C0 _ bb2) q0 e4).mono ?_
 rintro e w4 ⟨u4_0, rfl, ou4_0, bb4⟩
 obtain ⟨Au4_0, ku4_0, xu4_0, qu4_0, Cu4_0⟩ := V3 ou4_0; subst xu4_0
 refine ⟨_, rfl, ?_⟩
 refine m0 (.tuple #[.slice Au4_0 r4_1.length ku4_0, .int .i64 r4_2]) rfl rfl rfl rfl rfl ?_
 refine x0 (.slice Au4_0 r4_1.length ku4_0) rfl rfl rfl rfl rfl rfl ?_
 refine x0 (.int .i64 r4_2) rfl rfl rfl rfl rfl rfl ?_
 refine a0 (.slice Au4_0 r4_1.length ku4_0) rfl rfl rfl rfl rfl ?_
 refine a0 (.int .i64 r4_2) rfl rfl rfl rfl rfl ?_
 refine nilt ?_
 refine wp_seq ?_
 refine wp_region_lit ?_
 refine m0 (.slice Au4_0 r4_1.length ku4_0) rfl rfl rfl rfl rfl ?_
 refine m0 (.int .i64 r4_2) rfl rfl rfl rfl rfl ?_
 obtain ⟨⟨r5_1, r5_2⟩, e5, h⟩ := bind_ h
 refine cl_ Try.func9 (by kernel_rfl) rfl rfl rfl rfl (go0 rfl) (argc (v := .slice Au4_0 r4_1.length ku4_0) rfl (argc (v := .int .i64 r4_2) rfl argn)) ?_
 refine (impl_BestChange.calls k Au4_0 ku4_0 r4_1 r4_2 _ _ _ (Cu4_0 _ (Below.refl _ _)) qu4_0 e5).mono ?_
 rintro e w5 ⟨u5_0, rfl, ou5_0, bb5⟩
 obtain ⟨Au5_0, ku5_0, xu5_0, qu5_0, Cu5_0⟩ := R3 ou5_0; subst xu5_0
 refine ⟨_, rfl, ?_⟩
 refine m0 (.tuple #[.slice Au5_0 r5_1.length ku5_0, .bool r5_2]) rfl rfl rfl rfl rfl ?_
 refine x0 (.slice Au5_0 r5_1.length ku5_0) rfl rfl rfl rfl rfl rfl ?_
 refine x0 (.bool r5_2) rfl rfl rfl rfl rfl rfl ?_
 refine a0 (.slice Au5_0 r5_1.length ku5_0) rfl rfl rfl rfl rfl ?_
 refine a0 (.bool r5_2) rfl rfl rfl rfl rfl ?_
 refine nilt ?_
 refine wp_seq ?_
 refine wp_region_lit ?_
 refine m0 (.slice Au4_0 r4_1.length ku4_0) rfl rfl rfl rfl rfl ?_
 refine m0 (.int .i64 r4_2) rfl rfl rfl rfl rfl ?_
 obtain ⟨⟨r6_1, r6_2⟩, e6, h⟩ := bind_ h
 refine cl_ Try.func10 (by kernel_rfl) rfl rfl rfl rfl (go0 rfl) (argc (v := .slice Au4_0 r4_1.length ku4_0) rfl (argc (v := .int .i64 r4_2) rfl argn)) ?_
 refine (spec_BestChange.calls k Au4_0 ku4_0 r4_1 r4_2 _ _ _ (Cu4_0 _ bb5) qu4_0 e6).mono ?_
 rintro e w6 ⟨u6_0, rfl, ou6_0, bb6⟩
 obtain ⟨Au6_0, ku6_0, xu6_0, qu6_0, Cu6_0⟩ := R3 ou6_0; subst xu6_0
 refine ⟨_, rfl, ?_⟩
 refine m0 (.tuple #[.slice Au6_0 r6_1.length ku6_0, .bool r6_2]) rfl rfl rfl rfl rfl ?_
 refine x0 (.slice Au6_0 r6_1.length ku6_0) rfl rfl rfl rfl rfl rfl ?_
 refine x0 (.bool r6_2) rfl rfl rfl rfl rfl rfl ?_
 refine a0 (.slice Au6_0 r6_1.length ku6_0) rfl rfl rfl rfl rfl ?_
 refine a0 (.bool r6_2) rfl rfl rfl rfl rfl ?_
 refine nilt ?_
 refine wp_seq ?_
 refine wp_region_lit ?_
 refine m0 (.slice Au4_0 r4_1.length ku4_0) rfl rfl rfl rfl rfl ?_
 refine m0 (.int .i64 r4_2) rfl rfl rfl rfl rfl ?_
 obtain ⟨⟨r7_1, r7_2⟩, e7, h⟩ := bind_ h
 refine cl_ Try.func11 (by kernel_rfl) rfl rfl rfl rfl (go0 rfl) (argc (v := .slice Au4_0 r4_1.length ku4_0) rfl (argc (v := .int .i64 r4_2) rfl argn)) ?_
 refine (impl_FewestCoins.calls k Au4_0 ku4_0 r4_1 r4_2 _ _ _ (Cu4_0 _ (below_step bb5 bb6)) qu4_0 e7).mono ?_
 rintro e w7 ⟨rfl, bb7⟩
 refine ⟨_, rfl, ?_⟩
 refine m0 (.tuple #[.int .i64 r7_1, .bool r7_2]) rfl rfl rfl rfl rfl ?_
 refine x0 (.int .i64 r7_1) rfl rfl rfl rfl rfl rfl ?_
 refine x0 (.bool r7_2) rfl rfl rfl rfl rfl rfl ?_
 refine a0 (.int .i64 r7_1) rfl rfl rfl rfl rfl ?_
 refine a0 (.bool r7_2) rfl rfl rfl rfl rfl ?_
 refine nilt ?_
 refine wp_seq ?_
 refine wp_region_lit ?_
 refine m0 (.slice Au4_0 r4_1.length ku4_0) rfl rfl rfl rfl rfl ?_
 refine m0 (.int .i64 r4_2) rfl rfl rfl rfl rfl ?_
 obtain ⟨⟨r8_1, r8_2⟩, e8, h⟩ := bind_ h
 refine cl_ Try.func12 (by kernel_rfl) rfl rfl rfl rfl (go0 rfl) (argc (v := .slice Au4_0 r4_1.length ku4_0) rfl (argc (v := .int .i64 r4_2) rfl argn)) ?_
 refine (spec_FewestCoins.calls k Au4_0 ku4_0 r4_1 r4_2 _ _ _ (Cu4_0 _ (below_step (below_step bb5 bb6) bb7)) qu4_0 e8).mono ?_
 rintro e w8 ⟨rfl, bb8⟩
 refine ⟨_, rfl, ?_⟩
 refine m0 (.tuple #[.int .i64 r8_1, .bool r8_2]) rfl rfl rfl rfl rfl ?_
 refine x0 (.int .i64 r8_1) rfl rfl rfl rfl rfl rfl ?_
 refine x0 (.bool r8_2) rfl rfl rfl rfl rfl rfl ?_
 refine a0 (.int .i64 r8_1) rfl rfl rfl rfl rfl ?_
 refine a0 (.bool r8_2) rfl rfl rfl rfl rfl ?_
 refine nilt ?_
 refine wp_seq ?_
 refine wp_region_lit ?_
 refine m0 (.slice Au4_0 r4_1.length ku4_0) rfl rfl rfl rfl rfl ?_
 refine m0 (.int .i64 r4_2) rfl rfl rfl rfl rfl ?_
 obtain ⟨⟨r9_1, r9_2⟩, e9, h⟩ := bind_ h
 refine cl_ Try.func13 (by kernel_rfl) rfl rfl rfl rfl (go0 rfl) (argc (v := .slice Au4_0 r4_1.length ku4_0) rfl (argc (v := .int .i64 r4_2) rfl argn)) ?_
 refine (impl_GreedyChange.calls k Au4_0 ku4_0 r4_1 r4_2 _ _ _ (Cu4_0 _ (below_step (below_step (below_step bb5 bb6) bb7) bb8)) qu4_0 e9).mono ?_
 rintro e w9 ⟨u9_0, rfl, ou9_0, bb9⟩
 obtain ⟨Au9_0, ku9_0, xu9_0, qu9_0, Cu9_0⟩ := R3 ou9_0; subst xu9_0
 refine ⟨_, rfl, ?_⟩
 refine m0 (.tuple #[.slice Au9_0 r9_1.length ku9_0, .bool r9_2]) rfl rfl rfl rfl rfl ?_
 refine x0 (.slice Au9_0 r9_1.length ku9_0) rfl rfl rfl rfl rfl rfl ?_
 refine x0 (.bool r9_2) rfl rfl rfl rfl rfl rfl ?_
 refine a0 (.slice Au9_0 r9_1.length ku9_0) rfl rfl rfl rfl rfl ?_
 refine a0 (.bool r9_2) rfl rfl rfl rfl rfl ?_
 refine nilt ?_
 exact laws_FnChangeGiven.w10 k r ws _ _ A1 k1 l1 h1 q1 (On.adv C1 (below_step (below_step (below_step (below_step (below_step (below_step bb2 bb4) bb5) bb6) bb7) bb8) bb9)) Au4_0 ku4_0 r4_1 rfl qu4_0 (On.adv Cu4_0 (below_step (below_step (below_step (below_step bb5 bb6) bb7) bb8) bb9)) r4_2 rfl Au5_0 ku5_0 r5_1 rfl qu5_0 (On.adv Cu5_0 (below_step (below_step (below_step bb6 bb7) bb8) bb9)) r5_2 rfl Au6_0 ku6_0 r6_1 rfl qu6_0 (On.adv Cu6_0 (below_step (below_step bb7 bb8) bb9)) r6_2 rfl r7_1 rfl r7_2 rfl r8_1 rfl r8_2 rfl Au9_0 ku9_0 r9_1 rfl qu9_0 Cu9_0 r9_2 rfl (below_step B0 (below_step (below_step (below_step (below_step (below_step (below_step bb2 bb4) bb5) bb6) bb7) bb8) bb9)) h
def laws_FnChangeGiven.f (k : Nat) (l0 : List Int) (l1 : List Int) : Option Bool := laws_FnChangeGiven.p1 k l0 l1
theorem laws_FnChangeGiven.calls (k : Nat) (A0 : Option Addr) (c0 : Nat) (l0 : List Int) (A1 : Option Addr) (c1 : Nat) (l1 : List Int) (r : Bool) (w : World) (hr0 : Kd.C (Kd.int .u8) w A0 l0.length l0) (hc0 : l0.length ≤ c0) (hr1 : Kd.C (Kd.int .u8) w A1 l1.length l1) (hc1 : l1.length ≤ c1) (h : laws_FnChangeGiven.f k l0 l1 = some r) :
 Calls Try.prog 3 #[.slice A0 l0.length c0, .slice A1 l1.length c1] w fun e w' => e = .returned (.bool r) ∧ Below w.heap.size w w' := by
 refine enter (n := 543) (args := [.slice A0 l0.length c0, .slice A1 l1.length c1]) Try.func3 rfl rfl (by simp) (fun f0 hf => ?_)
 have B0 := Below.refl w.heap.size w
 have h0 := hf 0 _ rfl
 have C0 := on_C hr0
 have h1 := hf 1 _ rfl
 have C1 := on_C hr1
 exact laws_FnChangeGiven.w1 k r w _ _ A0 c0 l0 h0 hc0 C0 A1 c1 l1 h1 hc1 C1 B0 h
/-- What is left to prove of the law: numbers and lists alone. -/
def laws_FnChangeGiven.Pure : Prop := ∀ (l0 : List Int) (l1 : List Int), l0.length ≤ maxLen → l0.length * 1 ≤ 140737488351232 → (∀ x ∈ l0, (Lit.int .u8 x).wf = true) → l1.length ≤ maxLen → l1.length * 1 ≤ 140737488351232 → (∀ x ∈ l1, (Lit.int .u8 x).wf = true) → ∃ k, laws_FnChangeGiven.f k l0 l1 = some true
theorem laws_FnChangeGiven.walk (P : laws_FnChangeGiven.Pure) (a0 : Option Addr) (len0 cap0 : Nat) (z0 : List Int) (a1 : Option Addr) (len1 cap1 : Nat) (z1 : List Int) (w : World) (w0 : (a0 = none ∧ len0 = 0 ∧ cap0 = 0 ∧ z0 = []) ∨ ∃ x, a0 = some x ∧ len0 ≤ cap0 ∧ cap0 ≤ maxLen ∧ z0.length = cap0 ∧ (∀ i, i < z0.length → w.cell? (x.add i) = some (.int .u8 (z0.getD i 0))) ∧ ∀ n ∈ z0, (Lit.int .u8 n).wf = true) (y0 : len0 * 1 ≤ 140737488351232) (w1 : (a1 = none ∧ len1 = 0 ∧ cap1 = 0 ∧ z1 = []) ∨ ∃ x, a1 = some x ∧ len1 ≤ cap1 ∧ cap1 ≤ maxLen ∧ z1.length = cap1 ∧ (∀ i, i < z1.length → w.cell? (x.add i) = some (.int .u8 (z1.getD i 0))) ∧ ∀ n ∈ z1, (Lit.int .u8 n).wf = true) (y1 : len1 * 1 ≤ 140737488351232) :
 Calls Try.prog 3 #[.slice a0 len0 cap0, .slice a1 len1 cap1] w fun e w' => e = .returned (.bool true) ∧ Below w.heap.size w w' := by
 obtain ⟨l0, rfl, hr0, hm0, hw0, hc0⟩ := ReadsInt.ofRowC w0
 obtain ⟨l1, rfl, hr1, hm1, hw1, hc1⟩ := ReadsInt.ofRowC w1
 obtain ⟨k, h⟩ := P l0 l1 hm0 y0 hw0 hm1 y1 hw1
 exact laws_FnChangeGiven.calls k _ _ l0 _ _ l1 true w (Kd.C_of_reads (d := (0 : Int)) (h1 := fun _ => rfl) hr0) hc0 (Kd.C_of_reads (d := (0 : Int)) (h1 := fun _ => rfl) hr1) hc1 h
end

end Go.Proofs.Ytjjajbgijncfoaa.PFnChangeGiven
