-- printed by wip/xp
import Derived.Test.YtgeoihhibglhgaaVFnPiecesHidden
import Derived.Test.YtgeoihhibglhgaaPFnPiecesHiddenx0
import Derived.Test.YtgeoihhibglhgaaPFnPiecesHiddenx1
import Derived.Test.YtgeoihhibglhgaaPFnPiecesHiddenx2
import Derived.Test.YtgeoihhibglhgaaPFnPiecesHiddenx3
import Derived.Test.YtgeoihhibglhgaaPFnPiecesHiddenx5
import Derived.Test.YtgeoihhibglhgaaPFnPiecesHiddenx8
import Derived.Test.YtgeoihhibglhgaaPFnPiecesHiddenx9
import Derived.Test.YtgeoihhibglhgaaPFnPiecesHiddenx11
import Derived.Test.YtgeoihhibglhgaaPFnPiecesHiddenx12
import Derived.Test.YtgeoihhibglhgaaPFnPiecesHiddenx13
import Derived.Test.YtgeoihhibglhgaaPFnPiecesHiddenx15
import Derived.Test.YtgeoihhibglhgaaPFnPiecesHiddenx16
import Derived.Test.YtgeoihhibglhgaaPFnPiecesHiddenx17
import Derived.Test.YtgeoihhibglhgaaPFnPiecesHiddenx18
set_option maxHeartbeats 8000000
set_option maxRecDepth 100000
namespace Go.Proofs.Ytgeoihhibglhgaa.PFnPiecesHidden
open Go.RowKit Go.Proofs.YtgeoihhibglhgaaW.PrintWords Go.Proofs.YtgeoihhibglhgaaW.PrintLast Go.Proofs.YtgeoihhibglhgaaW.PrintMore Go.Proofs.Ytgeoihhibglhgaa.Xmv
attribute [local go_sem] max2_int min2_int max_two min_two max_three min_three max_four min_four
set_option linter.unusedVariables false
set_option linter.unusedSimpArgs false

/-! ### laws_FnPiecesHidden: function 6 -/
section
open Go.Proofs.Ytgeoihhibglhgaa.Lw
set_option maxRecDepth 100000
@[reducible] noncomputable def L_.B : Code := Try.f6.body.getD .skip
@[reducible] def L_.Q0 (ws : World) (r : Bool) : Exit → Act → World → Prop := bodyPost Try.prog Try.f6 (fun e w' => e = .returned (.bool r) ∧ Below ws.heap.size ws w')
theorem L_.u4 : Try.prog.underlying 4 = some (.bool) := by kernel_rfl
theorem L_.u24 : Try.prog.underlying 24 = some (.slice (Try.prog.elem 24)) := by kernel_rfl
theorem L_.u50 : Try.prog.underlying 50 = some (.slice (Try.prog.elem 50)) := by kernel_rfl
theorem L_.st52 : Try.prog.underlying 52 = some (.struct (Try.prog.fieldsOf 52)) := by kernel_rfl
theorem L_.sz52 : (Try.prog.info? 52).map (fun i => (i.zero, i.size)) = some (some (.agg #[.slice none 0 0]), 1) := by kernel_rfl
theorem L_.sz1_52 : (Try.prog.info? 52).map (·.size) = some 1 := by kernel_rfl
theorem L_.st58 : Try.prog.underlying 58 = some (.struct (Try.prog.fieldsOf 58)) := by kernel_rfl
theorem L_.sz58 : (Try.prog.info? 58).map (fun i => (i.zero, i.size)) = some (some (.agg #[.int .i64 0, .int .i64 0, .int .i64 0]), 3) := by kernel_rfl
theorem L_.sz1_58 : (Try.prog.info? 58).map (·.size) = some 3 := by kernel_rfl
theorem L_.fa52_0 (g : Nat) (w : World) : (Instr.fieldAt 52 (.pointer (some ⟨g, 0, none⟩)) 0).run Try.prog w = .ok (.pointer (some ⟨g, 0, none⟩)) w := by kernel_rfl
theorem L_.bd58_0_1 (a0 : Int) (a1 : Int) (w : World) : (Instr.build 58 #[(0, .int .i64 a0), (1, .int .i64 a1)]).run Try.prog w = .ok (.agg #[.int .i64 a0, .int .i64 a1, .int .i64 0]) w := by kernel_rfl
theorem L_.bd58_0_1_2 (a0 : Int) (a1 : Int) (a2 : Int) (w : World) : (Instr.build 58 #[(0, .int .i64 a0), (1, .int .i64 a1), (2, .int .i64 a2)]).run Try.prog w = .ok (.agg #[.int .i64 a0, .int .i64 a1, .int .i64 a2]) w := by kernel_rfl
theorem L_.eg58 : Try.prog.eqGuardType Try.prog.depth 58 = false := by kernel_rfl
theorem L_.zn50 : (Try.prog.info? (Try.prog.elem 50)).map (·.size) = some 3 := by kernel_rfl
@[reducible] def L_.Q1 (ws : World) (r : Bool) : Exit → Act → World → Prop := Exit.then (Code.wp Try.prog (srn 7 L_.B) (L_.Q0 ws r)) (L_.Q0 ws r)
@[reducible] def L_.Q2 (ws : World) (r : Bool) : Exit → Act → World → Prop := Exit.inBlock 0 (L_.Q1 ws r)
@[reducible] def L_.Q3 (ws : World) (r : Bool) : Exit → Act → World → Prop := Exit.then (fun a' w' => AtHead Try.prog (lb (bl (srn 8 (ct (srn 1 (sl (srn 6 L_.B))))))) (L_.Q2 ws r) a' w') (L_.Q2 ws r)
def laws_FnPiecesHidden.p45 (k : Nat) (L37 : List Int → List Int → List S58 → Int → Int → Option Bool) (l1 : List Int) (l5 : List Int) (l197 : List S58) (a198 : Int) (a199 : Int) : Option Bool := L37 l1 l5 l197 a198 (wrap64 (a199 + 1))
theorem L_.w45 (k : Nat) (r : Bool) (ws : World) (L37 : List Int → List Int → List S58 → Int → Int → Option Bool) (ih37 : ∀ (f0 : Nat → Value) (w0 : World) (A1 : Option Addr) (k1 : Nat) (l1 : List Int) (h1 : f0 1 = .slice A1 l1.length k1) (q1 : l1.length ≤ k1) (C1 : On w0 fun x => Kd.C (Kd.int .u8) x A1 l1.length l1) (A5 : Option Addr) (k5 : Nat) (l5 : List Int) (h5 : f0 5 = .slice A5 l5.length k5) (q5 : l5.length ≤ k5) (C5 : On w0 fun x => Kd.C (Kd.int .i64) x A5 l5.length l5) (A197 : Option Addr) (k197 : Nat) (l197 : List S58) (h197 : f0 197 = .slice A197 l197.length k197) (q197 : l197.length ≤ k197) (C197 : On w0 fun x => Kd.C (k58) x A197 l197.length l197) (a198 : Int) (h198 : f0 198 = .int .i64 a198) (a199 : Int) (h199 : f0 199 = .int .i64 a199) (B0 : Below ws.heap.size ws w0) (h : L37 l1 l5 l197 a198 a199 = some r), AtHead Try.prog (lb (bl (srn 8 (ct (srn 1 (sl (srn 6 L_.B))))))) (L_.Q2 ws r) (fr 457 f0) w0) (f0 : Nat → Value) (w0 : World) (A1 : Option Addr) (k1 : Nat) (l1 : List Int) (h1 : f0 1 = .slice A1 l1.length k1) (q1 : l1.length ≤ k1) (C1 : On w0 fun x => Kd.C (Kd.int .u8) x A1 l1.length l1) (A5 : Option Addr) (k5 : Nat) (l5 : List Int) (h5 : f0 5 = .slice A5 l5.length k5) (q5 : l5.length ≤ k5) (C5 : On w0 fun x => Kd.C (Kd.int .i64) x A5 l5.length l5) (A197 : Option Addr) (k197 : Nat) (l197 : List S58) (h197 : f0 197 = .slice A197 l197.length k197) (q197 : l197.length ≤ k197) (C197 : On w0 fun x => Kd.C (k58) x A197 l197.length l197) (a198 : Int) (h198 : f0 198 = .int .i64 a198) (a199 : Int) (h199 : f0 199 = .int .i64 a199) (B0 : Below ws.heap.size ws w0) (h : laws_FnPiecesHidden.p45 k L37 l1 l5 l197 a198 a199 = some r) : Code.wp Try.prog (srn 3 (lb (bl (srn 8 (ct (srn 1 (sl (srn 6 L_.B)))))))) (L_.Q3 ws r) (fr 457 f0) w0 := by
 unfold laws_FnPiecesHidden.p45 at h
 refine wp_region_lit ?_
 refine bi_ (v := .int .i64 (wrap64 (a199 + 1))) rfl rfl rfl rfl (go0 rfl) h199 rfl (i_add rfl) ?_
 refine m0 (.int .i64 (wrap64 (a199 + 1))) rfl rfl rfl rfl rfl ?_
 refine nilt ?_
 exact ih37 _ _ A1 k1 l1 h1 q1 C1 A5 k5 l5 h5 q5 C5 A197 k197 l197 h197 q197 C197 a198 h198 (wrap64 (a199 + 1)) rfl B0 h
def laws_FnPiecesHidden.p116 (k : Nat) (l47_0 : List S58) (a48 : Int) (l49_0 : List S58) (b50 : Bool) : Option Bool := (if b50 = true then (some (a48 == (wrap64 ((l47_0.length : Int) - 1)))) else (some false)).bind fun d117 => if d117 = true then (if (decide (0 ≤ a48) && decide (a48 < (l47_0.length : Int))) = true then ((impl_AddClue.f k l49_0 ((rd_T58 l47_0 a48).f0) ((rd_T58 l47_0 a48).f1) ((rd_T58 l47_0 a48).f2)).bind fun t123 => (if t123.2 = true then ((laws_jClues.f k t123.1 l47_0).bind fun r127_0 => some r127_0) else (some false)).bind fun d125 => some d125) else none) else (some true)
theorem L_.w116 (k : Nat) (r : Bool) (ws : World) (f0 : Nat → Value) (w0 : World) (A47_0 : Option Addr) (k47_0 : Nat) (l47_0 : List S58) (q47_0 : l47_0.length ≤ k47_0) (C47_0 : On w0 fun x => Kd.C (k58) x A47_0 l47_0.length l47_0) (g47_ : Nat) (h47 : f0 47 = .pointer (some ⟨g47_, 0, none⟩)) (G47_ : On w0 fun x => x.heap[g47_]? = some (.cells #[.slice A47_0 l47_0.length k47_0] 52 (0, 0))) (a48 : Int) (h48 : f0 48 = .int .i64 a48) (A49_0 : Option Addr) (k49_0 : Nat) (l49_0 : List S58) (q49_0 : l49_0.length ≤ k49_0) (C49_0 : On w0 fun x => Kd.C (k58) x A49_0 l49_0.length l49_0) (g49_ : Nat) (h49 : f0 49 = .pointer (some ⟨g49_, 0, none⟩)) (G49_ : On w0 fun x => x.heap[g49_]? = some (.cells #[.slice A49_0 l49_0.length k49_0] 52 (0, 0))) (b50 : Bool) (h50 : f0 50 = .bool b50) (B0 : Below ws.heap.size ws w0) (h : laws_FnPiecesHidden.p116 k l47_0 a48 l49_0 b50 = some r) : Code.wp Try.prog (srn 25 L_.B) (L_.Q0 ws r) (fr 457 f0) w0 := by
 unfold laws_FnPiecesHidden.p116 at h
 refine wp_seq ?_
 refine wp_seq ?_
 refine wp_region_lit ?_
 refine m0 (.bool b50) rfl rfl rfl rfl h50 ?_
 refine m0 (.bool b50) rfl rfl rfl rfl rfl ?_
 obtain ⟨d117, e117, h⟩ := bind_ h
 refine cut_ 7 (fun f g w' => Same 8 f g ∧ g 438 = .bool d117 ∧ g 47 = .pointer (some ⟨g47_, 0, none⟩) ∧ g 48 = .int .i64 a48 ∧ g 49 = .pointer (some ⟨g49_, 0, none⟩) ∧ Below w0.heap.size w0 w') ?_ ?_
 · clear h; have h := e117; clear e117
   rcases ifs h with ⟨c118, h⟩ | ⟨c118, h⟩
   · refine mv_ (v := .int .i64 a48) rfl rfl rfl (go1 (j := 1) (t := 431) rfl (by kernel_rfl) rfl (Eq.trans rfl (vb c118))) h48 ?_
     refine fa_ (v := .pointer (some ⟨g47_, 0, none⟩)) rfl rfl rfl (go1 (j := 1) (t := 431) rfl (by kernel_rfl) rfl (Eq.trans rfl (vb c118))) h47 (L_.fa52_0 g47_) ?_
     refine ld_ (v := .slice A47_0 l47_0.length k47_0) rfl rfl rfl (go1 (j := 1) (t := 431) rfl (by kernel_rfl) rfl (Eq.trans rfl (vb c118))) rfl (load_s L_.u50 ((cell_of_row _ _ 0 _ _ _ (G47_ _ (jU _ _))).trans rfl)) ?_
     refine ln_ L_.u50 rfl rfl rfl (go1 (j := 1) (t := 431) rfl (by kernel_rfl) rfl (Eq.trans rfl (vb c118))) rfl ?_
     refine bi_ (v := .int .i64 (wrap64 ((l47_0.length : Int) - 1))) rfl rfl rfl rfl (go1 (j := 1) (t := 431) rfl (by kernel_rfl) rfl (Eq.trans rfl (vb c118))) rfl rfl (i_sub rfl) ?_
     refine bi_ (v := .bool ((a48 == (wrap64 ((l47_0.length : Int) - 1))))) rfl rfl rfl rfl (go1 (j := 1) (t := 431) rfl (by kernel_rfl) rfl (Eq.trans rfl (vb c118))) rfl rfl (i_eql rfl) ?_
     refine pk_ (b := true) (v := .bool (a48 == (wrap64 ((l47_0.length : Int) - 1)))) rfl rfl rfl rfl rfl (go0 rfl) (Eq.trans rfl (vb c118)) rfl ?_
     refine wpList_nil ?_
     exact then_n ⟨_, rfl, (Same.put (Same.put (Same.put (Same.put (Same.put (Same.put (Same.put (Same.refl _ _) rfl) rfl) rfl) rfl) rfl) rfl) rfl), (Eq.trans rfl (vb (jM h))), h47, h48, h49, (jU _ _)⟩
   refine skp (no1 (j := 1) (t := 431) rfl (by kernel_rfl) rfl (Eq.trans rfl (vb c118)) rfl) rfl ?_
   refine skp (no1 (j := 1) (t := 431) rfl (by kernel_rfl) rfl (Eq.trans rfl (vb c118)) rfl) rfl ?_
   refine skp (no1 (j := 1) (t := 431) rfl (by kernel_rfl) rfl (Eq.trans rfl (vb c118)) rfl) rfl ?_
   refine skp (no1 (j := 1) (t := 431) rfl (by kernel_rfl) rfl (Eq.trans rfl (vb c118)) rfl) rfl ?_
   refine skp (no1 (j := 1) (t := 431) rfl (by kernel_rfl) rfl (Eq.trans rfl (vb c118)) rfl) rfl ?_
   refine skp (no1 (j := 1) (t := 431) rfl (by kernel_rfl) rfl (Eq.trans rfl (vb c118)) rfl) rfl ?_
   refine pk_ (b := false) (v := .bool false) rfl rfl rfl rfl rfl (go0 rfl) (Eq.trans rfl (vb c118)) rfl ?_
   refine wpList_nil ?_
   exact then_n ⟨_, rfl, (Same.put (Same.put (Same.put (Same.put (Same.put (Same.put (Same.put (Same.refl _ _) rfl) rfl) rfl) rfl) rfl) rfl) rfl), (Eq.trans rfl (vb (jM h))), h47, h48, h49, (jU _ _)⟩
 clear e117; rintro g117 w117 ⟨S117, x117_438, x117_47, x117_48, x117_49, bb117⟩
 refine nilt ?_
 rcases ifs h with ⟨c119, h⟩ | ⟨c119, h⟩
 · refine cT ?_ (Eq.trans x117_438 (vb c119)) rfl
   refine wp_seq ?_
   refine startS (m := 13) #[false, false, false, false, false, false, false, false, false, false, false, false, false] (by kernel_rfl) rfl rfl ?_
   intro w120 bb120
   refine pu (v := .pointer (some ⟨g47_, 0, none⟩)) (i := 1) #[false, true, false, false, false, false, false, false, false, false, false, false, false] rfl rfl (by kernel_rfl) (go0 rfl) (fun w_ => run_fa rfl rfl x117_47 (L_.fa52_0 g47_ w_)) (fun _ _ _ h => h) ?_
   refine pu (v := .int .i64 a48) (i := 3) #[false, true, false, true, false, false, false, false, false, false, false, false, false] rfl rfl (by kernel_rfl) (go0 rfl) (run_mv rfl rfl x117_48) (fun _ _ _ h => h) ?_
   refine tk (v := .agg #[.slice A49_0 l49_0.length k49_0]) (i := 0) #[true, true, false, true, false, false, false, false, false, false, false, false, false] rfl rfl (by kernel_rfl) (go0 rfl) (fun w_ b_ => run_l rfl rfl x117_49 (load_g L_.st52 L_.sz1_52 (G49_ _ (jB bb117 b_)))) (fun _ _ _ h => h) bb120 ?_
   refine tk (v := .slice A47_0 l47_0.length k47_0) (i := 2) #[true, true, true, true, false, false, false, false, false, false, false, false, false] rfl rfl (by kernel_rfl) (go0 rfl) (fun w_ b_ => run_l rfl rfl rfl (load_s L_.u50 ((cell_of_row _ _ 0 _ _ _ (G47_ _ (jB bb117 b_))).trans rfl))) (fun _ _ _ h => h) bb120 ?_
   obtain ⟨c121, h⟩ := ify h
   replace c121 := bnd c121
   obtain ⟨ad122, ead122, xad122⟩ := at_on z58 (fun x_ => [.int .i64 x_.f0, .int .i64 x_.f1, .int .i64 x_.f2]) k58_open (On.adv C47_0 bb117) a48 c121.1 (by have := c121.2; omega)
   subst ead122
   refine pu (v := .pointer (some (ad122.add (Int.toNat a48 * 3)))) (i := 4) #[true, true, true, true, true, false, false, false, false, false, false, false, false] rfl rfl (by kernel_rfl) (go0 rfl) (run_ixn (q := a48) L_.u50 L_.zn50 c121.1 c121.2 rfl rfl rfl rfl rfl) (fun _ _ _ h => h) ?_
   refine tk (v := .agg #[.int .i64 ((rd_T58 l47_0 a48).f0), .int .i64 ((rd_T58 l47_0 a48).f1), .int .i64 ((rd_T58 l47_0 a48).f2)]) (i := 5) #[true, true, true, true, true, true, false, false, false, false, false, false, false] rfl rfl (by kernel_rfl) (go0 rfl) (fun w_ b_ => run_l rfl rfl rfl (load_e L_.st58 L_.sz1_58 (xad122 _ b_))) (fun _ _ _ h => h) bb120 ?_
   obtain ⟨⟨r123_1, r123_2⟩, e123, h⟩ := bind_ h
   refine ca3 (D := k58) (e0 := 58) (r := r123_1) (wb := w117) (i := 6) (j := 10) (k1 := 7) (k2 := 8) (k3 := 9) (fun v_ => .agg #[v_]) (fun v_ =>  .bool r123_2) #[true, true, true, true, true, true, true, false, false, false, false, false, false] #[true, true, true, true, true, true, false, false, false, false, true, false, false] #[true, true, true, true, true, true, true, true, false, false, false, false, false] #[true, true, true, true, true, true, true, true, true, false, false, false, false] #[true, true, true, true, true, true, true, true, true, true, false, false, false] #[true, true, true, true, true, true, true, false, false, false, true, false, false] #[true, true, true, true, true, true, true, true, false, false, true, false, false] #[true, true, true, true, true, true, true, true, true, false, true, false, false] #[true, true, true, true, true, true, true, true, true, true, true, false, false] rfl rfl rfl rfl rfl rfl rfl rfl rfl rfl (by kernel_rfl) (by kernel_rfl) (by kernel_rfl) rfl rfl rfl rfl rfl rfl (by kernel_rfl) (by kernel_rfl) (by kernel_rfl) rfl rfl rfl Try.func93 (by kernel_rfl) rfl rfl rfl  (argc (v := .agg #[.slice A49_0 l49_0.length k49_0]) rfl (argc (v := .agg #[.int .i64 ((rd_T58 l47_0 a48).f0), .int .i64 ((rd_T58 l47_0 a48).f1), .int .i64 ((rd_T58 l47_0 a48).f2)]) rfl argn)) (fun _ => (argc (v := .agg #[.slice A49_0 l49_0.length k49_0]) rfl (argc (v := .agg #[.int .i64 ((rd_T58 l47_0 a48).f0), .int .i64 ((rd_T58 l47_0 a48).f1), .int .i64 ((rd_T58 l47_0 a48).f2)]) rfl argn))) rfl L_.sz52 bb120 (fun _ _ _ _ _ h => h) (fun W b_ => (impl_AddClue.calls k A49_0 k49_0 l49_0 ((rd_T58 l47_0 a48).f0) ((rd_T58 l47_0 a48).f1) ((rd_T58 l47_0 a48).f2) _ _ _ (C49_0 _ (jB bb117 b_)) q49_0 e123).mono ?_) ?_
   · rintro e w' ⟨v_, rfl, o_, bd⟩; exact ⟨v_, rfl, o_, bd⟩
   intro v123 ga123 w123 hga123 hge123 oR123 bb123
   obtain ⟨Ao123, co123, ev123⟩ := jq oR123
   subst ev123
   refine st1 (vs := #[.slice Ao123 r123_1.length co123]) w117 (i := 11) #[true, true, true, true, true, true, true, true, true, true, true, true, false] rfl rfl (by kernel_rfl) (by simp) rfl rfl rfl rfl rfl rfl L_.sz52 rfl (by simp [Value.oneCell']) hga123 bb123 hge123 ?_
   intro w124 hgs124 hot124 bb124
   refine ⟨bb124, ?_⟩
   have Gs124 := on_blk hgs124
   obtain ⟨qs124, Cs124⟩ := R3s (Kd.R_step oR123 (fun k_ hk_ _ => hot124 k_ hk_))
   refine pu (v := .bool r123_2) (i := 12) #[true, true, true, true, true, true, true, true, true, true, true, true, true] rfl rfl (by kernel_rfl) (go0 rfl) (run_as rfl rfl rfl) (fun _ _ _ h => h) ?_
   refine done_ (by kernel_rfl) ?_
   refine then_n ?_
   refine wp_seq ?_
   refine wp_region_lit ?_
   refine m0 (.bool r123_2) rfl rfl rfl rfl rfl ?_
   refine m0 (.bool r123_2) rfl rfl rfl rfl rfl ?_
   obtain ⟨d125, e125, h⟩ := bind_ h
   refine cut_ 6 (fun f g w' => Same 8 f g ∧ g 456 = .bool d125 ∧ Below w124.heap.size w124 w') ?_ ?_
   · clear h; have h := e125; clear e125
     rcases ifs h with ⟨c126, h⟩ | ⟨c126, h⟩
     · refine fa_ (v := .pointer (some ⟨ga123, 0, none⟩)) rfl rfl rfl (go1 (j := 1) (t := 450) rfl (by kernel_rfl) rfl (Eq.trans rfl (vb c126))) rfl (L_.fa52_0 ga123) ?_
       refine ld_ (v := .slice Ao123 r123_1.length co123) rfl rfl rfl (go1 (j := 1) (t := 450) rfl (by kernel_rfl) rfl (Eq.trans rfl (vb c126))) rfl (load_s L_.u50 ((cell_of_row _ _ 0 _ _ _ (Gs124 _ (jU _ _))).trans rfl)) ?_
       refine fa_ (v := .pointer (some ⟨g47_, 0, none⟩)) rfl rfl rfl (go1 (j := 1) (t := 450) rfl (by kernel_rfl) rfl (Eq.trans rfl (vb c126))) x117_47 (L_.fa52_0 g47_) ?_
       refine ld_ (v := .slice (some ad122) l47_0.length k47_0) rfl rfl rfl (go1 (j := 1) (t := 450) rfl (by kernel_rfl) rfl (Eq.trans rfl (vb c126))) rfl (load_s L_.u50 ((cell_of_row _ _ 0 _ _ _ (G47_ _ (jB bb117 bb124))).trans rfl)) ?_
       obtain ⟨r127_0, e127, h⟩ := bind_ h
       refine cl_ Try.func80 (by kernel_rfl) rfl rfl rfl rfl (go1 (j := 1) (t := 450) rfl (by kernel_rfl) rfl (Eq.trans rfl (vb c126))) (argc (v := .slice Ao123 r123_1.length co123) rfl (argc (v := .slice (some ad122) l47_0.length k47_0) rfl argn)) ?_
       refine (laws_jClues.calls k Ao123 co123 r123_1 (some ad122) k47_0 l47_0 _ _ (Cs124 _ (jU _ _)) qs124 (C47_0 _ (jB bb117 bb124)) q47_0 e127).mono ?_
       rintro e w127 ⟨rfl, d127⟩
       have bb127 := Drawn0.below d127
       refine ⟨_, rfl, ?_⟩
       refine pk_ (b := true) (v := .bool r127_0) rfl rfl rfl rfl rfl (go0 rfl) (Eq.trans rfl (vb c126)) rfl ?_
       refine wpList_nil ?_
       exact then_n ⟨_, rfl, (Same.put (Same.put (Same.put (Same.put (Same.put (Same.put (Same.refl _ _) rfl) rfl) rfl) rfl) rfl) rfl), (Eq.trans rfl (vb (jM h))), bb127⟩
     refine skp (no1 (j := 1) (t := 450) rfl (by kernel_rfl) rfl (Eq.trans rfl (vb c126)) rfl) rfl ?_
     refine skp (no1 (j := 1) (t := 450) rfl (by kernel_rfl) rfl (Eq.trans rfl (vb c126)) rfl) rfl ?_
     refine skp (no1 (j := 1) (t := 450) rfl (by kernel_rfl) rfl (Eq.trans rfl (vb c126)) rfl) rfl ?_
     refine skp (no1 (j := 1) (t := 450) rfl (by kernel_rfl) rfl (Eq.trans rfl (vb c126)) rfl) rfl ?_
     refine skp (no1 (j := 1) (t := 450) rfl (by kernel_rfl) rfl (Eq.trans rfl (vb c126)) rfl) rfl ?_
     refine pk_ (b := false) (v := .bool false) rfl rfl rfl rfl rfl (go0 rfl) (Eq.trans rfl (vb c126)) rfl ?_
     refine wpList_nil ?_
     exact then_n ⟨_, rfl, (Same.put (Same.put (Same.put (Same.put (Same.put (Same.put (Same.refl _ _) rfl) rfl) rfl) rfl) rfl) rfl), (Eq.trans rfl (vb (jM h))), (jU _ _)⟩
   clear e125; rintro g125 w125 ⟨S125, x125_456, bb125⟩
   refine a0 (.bool d125) rfl rfl rfl rfl x125_456 ?_
   refine nilt ?_
   refine wp_ret ?_
   refine then_r ?_
   exact leave rfl rfl rfl ⟨rb (jM h), (jB B0 (jB (jB bb117 bb124) bb125))⟩
 refine cF ?_ (Eq.trans x117_438 (vb c119)) rfl
 refine wp_skip ?_
 refine then_n ?_
 refine wp_seq ?_
 refine wp_region_lit ?_
 refine a0 (.bool true) rfl rfl rfl rfl rfl ?_
 refine nilt ?_
 refine wp_ret ?_
 exact leave rfl rfl rfl ⟨rb (jM h), (jB B0 bb117)⟩
def laws_FnPiecesHidden.p84 (k : Nat) (l1 : List Int) (l41_0 : List S58) (a42_0 : Int) (a42_1 : Int) (a42_2 : Int) (l43_0 : List S58) (b44 : Bool) (l45_0 : List S58) (b46 : Bool) (l47_0 : List S58) (a48 : Int) (l49_0 : List S58) (b50 : Bool) (l51_0 : List S58) (b52 : Bool) : Option Bool := (spec_DrawDoesFit.f k l1).bind fun t85 => (impl_DoesFit.f k t85.1 t85.2.1 t85.2.2.1 t85.2.2.2).bind fun t87 => (spec_DoesFit.f k t85.1 t85.2.1 t85.2.2.1 t85.2.2.2).bind fun t88 => (spec_DrawIsClue.f k l1).bind fun t89 => if (b44 != b46) = true then none else (laws_jClues.f k l43_0 l45_0).bind fun r93_0 => if (!r93_0) = true then none else if (b50 != b52) = true then none else (laws_jClues.f k l49_0 l51_0).bind fun r96_0 => if (!r96_0) = true then none else if (t87.2 != t88.2) = true then none else if (t87.1 != t88.1) = true then none else (impl_IsClue.f k t89.1 t89.2.1 t89.2.2).bind fun r100_0 => (spec_IsClue.f k t89.1 t89.2.1 t89.2.2).bind fun r101_0 => if (r100_0 != r101_0) = true then none else (if t87.2 = true then ((impl_IsClue.f k t85.1 t85.2.1 t85.2.2.1).bind fun r105_0 => some (!r105_0)) else (some false)).bind fun d103 => if d103 = true then none else if b44 = true then ((impl_DropClue.f k l43_0 (l41_0.length : Int)).bind fun t107 => if t107.2 = true then ((laws_jClues.f k t107.1 l41_0).bind fun r111_0 => if (!r111_0) = true then none else if (decide (0 ≤ (l41_0.length : Int)) && decide ((l41_0.length : Int) < (l43_0.length : Int))) = true then (if (!(((rd_T58 l43_0 (l41_0.length : Int)).f0) == a42_0 && (((rd_T58 l43_0 (l41_0.length : Int)).f1) == a42_1 && (((rd_T58 l43_0 (l41_0.length : Int)).f2) == a42_2)))) = true then none else laws_FnPiecesHidden.p116 k l47_0 a48 l49_0 b50) else none) else none) else (laws_FnPiecesHidden.p116 k l47_0 a48 l49_0 b50)
theorem L_.w84 (k : Nat) (r : Bool) (ws : World) (f0 : Nat → Value) (w0 : World) (A1 : Option Addr) (k1 : Nat) (l1 : List Int) (h1 : f0 1 = .slice A1 l1.length k1) (q1 : l1.length ≤ k1) (C1 : On w0 fun x => Kd.C (Kd.int .u8) x A1 l1.length l1) (A41_0 : Option Addr) (k41_0 : Nat) (l41_0 : List S58) (q41_0 : l41_0.length ≤ k41_0) (C41_0 : On w0 fun x => Kd.C (k58) x A41_0 l41_0.length l41_0) (g41_ : Nat) (h41 : f0 41 = .pointer (some ⟨g41_, 0, none⟩)) (G41_ : On w0 fun x => x.heap[g41_]? = some (.cells #[.slice A41_0 l41_0.length k41_0] 52 (0, 0))) (a42_0 : Int) (a42_1 : Int) (a42_2 : Int) (g42_ : Nat) (h42 : f0 42 = .pointer (some ⟨g42_, 0, none⟩)) (G42_ : On w0 fun x => x.heap[g42_]? = some (.cells #[.int .i64 a42_0, .int .i64 a42_1, .int .i64 a42_2] 58 (0, 0))) (A43_0 : Option Addr) (k43_0 : Nat) (l43_0 : List S58) (q43_0 : l43_0.length ≤ k43_0) (C43_0 : On w0 fun x => Kd.C (k58) x A43_0 l43_0.length l43_0) (g43_ : Nat) (h43 : f0 43 = .pointer (some ⟨g43_, 0, none⟩)) (G43_ : On w0 fun x => x.heap[g43_]? = some (.cells #[.slice A43_0 l43_0.length k43_0] 52 (0, 0))) (b44 : Bool) (h44 : f0 44 = .bool b44) (A45_0 : Option Addr) (k45_0 : Nat) (l45_0 : List S58) (q45_0 : l45_0.length ≤ k45_0) (C45_0 : On w0 fun x => Kd.C (k58) x A45_0 l45_0.length l45_0) (g45_ : Nat) (h45 : f0 45 = .pointer (some ⟨g45_, 0, none⟩)) (G45_ : On w0 fun x => x.heap[g45_]? = some (.cells #[.slice A45_0 l45_0.length k45_0] 52 (0, 0))) (b46 : Bool) (h46 : f0 46 = .bool b46) (A47_0 : Option Addr) (k47_0 : Nat) (l47_0 : List S58) (q47_0 : l47_0.length ≤ k47_0) (C47_0 : On w0 fun x => Kd.C (k58) x A47_0 l47_0.length l47_0) (g47_ : Nat) (h47 : f0 47 = .pointer (some ⟨g47_, 0, none⟩)) (G47_ : On w0 fun x => x.heap[g47_]? = some (.cells #[.slice A47_0 l47_0.length k47_0] 52 (0, 0))) (a48 : Int) (h48 : f0 48 = .int .i64 a48) (A49_0 : Option Addr) (k49_0 : Nat) (l49_0 : List S58) (q49_0 : l49_0.length ≤ k49_0) (C49_0 : On w0 fun x => Kd.C (k58) x A49_0 l49_0.length l49_0) (g49_ : Nat) (h49 : f0 49 = .pointer (some ⟨g49_, 0, none⟩)) (G49_ : On w0 fun x => x.heap[g49_]? = some (.cells #[.slice A49_0 l49_0.length k49_0] 52 (0, 0))) (b50 : Bool) (h50 : f0 50 = .bool b50) (A51_0 : Option Addr) (k51_0 : Nat) (l51_0 : List S58) (q51_0 : l51_0.length ≤ k51_0) (C51_0 : On w0 fun x => Kd.C (k58) x A51_0 l51_0.length l51_0) (g51_ : Nat) (h51 : f0 51 = .pointer (some ⟨g51_, 0, none⟩)) (G51_ : On w0 fun x => x.heap[g51_]? = some (.cells #[.slice A51_0 l51_0.length k51_0] 52 (0, 0))) (b52 : Bool) (h52 : f0 52 = .bool b52) (B0 : Below ws.heap.size ws w0) (h : laws_FnPiecesHidden.p84 k l1 l41_0 a42_0 a42_1 a42_2 l43_0 b44 l45_0 b46 l47_0 a48 l49_0 b50 l51_0 b52 = some r) : Code.wp Try.prog (srn 19 L_.B) (L_.Q0 ws r) (fr 457 f0) w0 := by
 unfold laws_FnPiecesHidden.p84 at h
 refine wp_seq ?_
 refine wp_region_lit ?_
 refine m0 (.slice A1 l1.length k1) rfl rfl rfl rfl h1 ?_
 obtain ⟨⟨r85_1, r85_2, r85_3, r85_4⟩, e85, h⟩ := bind_ h
 refine cl_ Try.func98 (by kernel_rfl) rfl rfl rfl rfl (go0 rfl) (argc (v := .slice A1 l1.length k1) rfl argn) ?_
 refine (spec_DrawDoesFit.calls k A1 k1 l1 _ _ _ _ _ (C1 _ (jU _ _)) q1 e85).mono ?_
 rintro e w85 ⟨u85_3, rfl, ou85_3, bb85⟩
 obtain ⟨Au85_3, ku85_3, xu85_3, qu85_3, Cu85_3⟩ := R3 ou85_3; subst xu85_3
 refine ⟨_, rfl, ?_⟩
 refine m0 (.tuple #[.agg #[.int .i64 r85_1, .int .i64 r85_2, .int .i64 r85_3], .slice Au85_3 r85_4.length ku85_3]) rfl rfl rfl rfl rfl ?_
 refine x0 (.agg #[.int .i64 r85_1, .int .i64 r85_2, .int .i64 r85_3]) rfl rfl rfl rfl rfl rfl ?_
 refine x0 (.slice Au85_3 r85_4.length ku85_3) rfl rfl rfl rfl rfl rfl ?_
 refine av_ (vs := #[.int .i64 r85_1, .int .i64 r85_2, .int .i64 r85_3]) rfl rfl rfl rfl rfl rfl rfl rfl L_.sz58 rfl (by simp [Value.oneCell']) rfl ?_
 intro g86_0 w86 hgg86_0 bb86
 have Gg86_0 := on_blk hgg86_0
 refine a0 (.slice Au85_3 r85_4.length ku85_3) rfl rfl rfl rfl rfl ?_
 refine nilt ?_
 refine wp_seq ?_
 refine wp_region_lit ?_
 refine ld_ (v := .agg #[.int .i64 r85_1, .int .i64 r85_2, .int .i64 r85_3]) rfl rfl rfl (go0 rfl) rfl (load_g L_.st58 L_.sz1_58 (Gg86_0 _ (jU _ _))) ?_
 refine m0 (.slice Au85_3 r85_4.length ku85_3) rfl rfl rfl rfl rfl ?_
 obtain ⟨⟨r87_1, r87_2⟩, e87, h⟩ := bind_ h
 refine cl_ Try.func83 (by kernel_rfl) rfl rfl rfl rfl (go0 rfl) (argc (v := .agg #[.int .i64 r85_1, .int .i64 r85_2, .int .i64 r85_3]) rfl (argc (v := .slice Au85_3 r85_4.length ku85_3) rfl argn)) ?_
 refine (impl_DoesFit.calls k r85_1 r85_2 r85_3 Au85_3 ku85_3 r85_4 _ _ _ (Cu85_3 _ bb86) qu85_3 e87).mono ?_
 rintro e w87 ⟨rfl, bb87⟩
 refine ⟨_, rfl, ?_⟩
 refine m0 (.tuple #[.bool r87_1, .bool r87_2]) rfl rfl rfl rfl rfl ?_
 refine x0 (.bool r87_1) rfl rfl rfl rfl rfl rfl ?_
 refine x0 (.bool r87_2) rfl rfl rfl rfl rfl rfl ?_
 refine a0 (.bool r87_1) rfl rfl rfl rfl rfl ?_
 refine a0 (.bool r87_2) rfl rfl rfl rfl rfl ?_
 refine nilt ?_
 refine wp_seq ?_
 refine wp_region_lit ?_
 refine ld_ (v := .agg #[.int .i64 r85_1, .int .i64 r85_2, .int .i64 r85_3]) rfl rfl rfl (go0 rfl) rfl (load_g L_.st58 L_.sz1_58 (Gg86_0 _ bb87)) ?_
 refine m0 (.slice Au85_3 r85_4.length ku85_3) rfl rfl rfl rfl rfl ?_
 obtain ⟨⟨r88_1, r88_2⟩, e88, h⟩ := bind_ h
 refine cl_ Try.func99 (by kernel_rfl) rfl rfl rfl rfl (go0 rfl) (argc (v := .agg #[.int .i64 r85_1, .int .i64 r85_2, .int .i64 r85_3]) rfl (argc (v := .slice Au85_3 r85_4.length ku85_3) rfl argn)) ?_
 refine (spec_DoesFit.calls k r85_1 r85_2 r85_3 Au85_3 ku85_3 r85_4 _ _ _ (Cu85_3 _ (jB bb86 bb87)) qu85_3 e88).mono ?_
 rintro e w88 ⟨rfl, bb88⟩
 refine ⟨_, rfl, ?_⟩
 refine m0 (.tuple #[.bool r88_1, .bool r88_2]) rfl rfl rfl rfl rfl ?_
 refine x0 (.bool r88_1) rfl rfl rfl rfl rfl rfl ?_
 refine x0 (.bool r88_2) rfl rfl rfl rfl rfl rfl ?_
 refine a0 (.bool r88_1) rfl rfl rfl rfl rfl ?_
 refine a0 (.bool r88_2) rfl rfl rfl rfl rfl ?_
 refine nilt ?_
 refine wp_seq ?_
 refine wp_region_lit ?_
 refine m0 (.slice A1 l1.length k1) rfl rfl rfl rfl h1 ?_
 obtain ⟨⟨r89_1, r89_2, r89_3⟩, e89, h⟩ := bind_ h
 refine cl_ Try.func100 (by kernel_rfl) rfl rfl rfl rfl (go0 rfl) (argc (v := .slice A1 l1.length k1) rfl argn) ?_
 refine (spec_DrawIsClue.calls k A1 k1 l1 _ _ _ _ (C1 _ (jB (jB (jB bb85 bb86) bb87) bb88)) q1 e89).mono ?_
 rintro e w89 ⟨rfl, bb89⟩
 refine ⟨_, rfl, ?_⟩
 refine av_ (vs := #[.int .i64 r89_1, .int .i64 r89_2, .int .i64 r89_3]) rfl rfl rfl rfl rfl rfl rfl rfl L_.sz58 rfl (by simp [Value.oneCell']) rfl ?_
 intro g90_0 w90 hgg90_0 bb90
 have Gg90_0 := on_blk hgg90_0
 refine nilt ?_
 refine wp_seq ?_
 refine wp_seq ?_
 refine startq (by kernel_rfl) (by kernel_rfl) ?_
 refine mvq (v := .bool b44) rfl rfl rfl (go0 rfl) h44 ?_
 refine mvq (v := .bool b46) rfl rfl rfl (go0 rfl) h46 ?_
 obtain ⟨c92, h⟩ := ifn h
 refine bbq (v := .bool (false)) rfl rfl rfl rfl (go0 rfl) rfl rfl (fun _ => (b_neq L_.u4 c92)) ?_
 refine mvq (v := .bool false) rfl rfl rfl (go0 rfl) rfl ?_
 refine faq (v := .pointer (some ⟨g43_, 0, none⟩)) rfl rfl rfl (go1 (j := 3) (t := 354) rfl (by kernel_rfl) rfl rfl) h43 (L_.fa52_0 g43_) ?_
 refine ldq (v := .slice A43_0 l43_0.length k43_0) rfl rfl rfl (go1 (j := 3) (t := 354) rfl (by kernel_rfl) rfl rfl) rfl (fun _ b_ => load_s L_.u50 ((cell_of_row _ _ 0 _ _ _ (G43_ _ (jB (jB (jB (jB (jB (jB bb85 bb86) bb87) bb88) bb89) bb90) b_))).trans rfl)) ?_
 refine faq (v := .pointer (some ⟨g45_, 0, none⟩)) rfl rfl rfl (go1 (j := 3) (t := 354) rfl (by kernel_rfl) rfl rfl) h45 (L_.fa52_0 g45_) ?_
 refine ldq (v := .slice A45_0 l45_0.length k45_0) rfl rfl rfl (go1 (j := 3) (t := 354) rfl (by kernel_rfl) rfl rfl) rfl (fun _ b_ => load_s L_.u50 ((cell_of_row _ _ 0 _ _ _ (G45_ _ (jB (jB (jB (jB (jB (jB bb85 bb86) bb87) bb88) bb89) bb90) b_))).trans rfl)) ?_
 obtain ⟨r93_0, e93, h⟩ := bind_ h
 refine clq (v := .bool r93_0) Try.func80 (by kernel_rfl) rfl rfl rfl rfl (go1 (j := 3) (t := 354) rfl (by kernel_rfl) rfl rfl) (argc (v := .slice A43_0 l43_0.length k43_0) rfl (argc (v := .slice A45_0 l45_0.length k45_0) rfl argn)) (fun w_ b_ => (laws_jClues.calls k A43_0 k43_0 l43_0 A45_0 k45_0 l45_0 _ _ (C43_0 _ (jB (jB (jB (jB (jB (jB bb85 bb86) bb87) bb88) bb89) bb90) b_)) q43_0 (C45_0 _ (jB (jB (jB (jB (jB (jB bb85 bb86) bb87) bb88) bb89) bb90) b_)) q45_0 e93).mono ?_) ?_
 · rintro e w' ⟨rfl, bd⟩; exact ⟨rfl, jB b_ (Drawn0.below bd)⟩
 obtain ⟨c94, h⟩ := ifn h
 refine ntq (c := false) rfl rfl rfl (go1 (j := 3) (t := 354) rfl (by kernel_rfl) rfl rfl) rfl c94 ?_
 refine pkq (b := false) (v := .bool false) rfl rfl rfl rfl rfl (go0 rfl) rfl rfl ?_
 refine mvq (v := .bool false) rfl rfl rfl (go0 rfl) rfl ?_
 refine mvq (v := .bool b50) rfl rfl rfl (go1 (j := 11) (t := 362) rfl (by kernel_rfl) rfl rfl) h50 ?_
 refine mvq (v := .bool b52) rfl rfl rfl (go1 (j := 11) (t := 362) rfl (by kernel_rfl) rfl rfl) h52 ?_
 obtain ⟨c95, h⟩ := ifn h
 refine bbq (v := .bool (false)) rfl rfl rfl rfl (go1 (j := 11) (t := 362) rfl (by kernel_rfl) rfl rfl) rfl rfl (fun _ => (b_neq L_.u4 c95)) ?_
 refine pkq (b := false) (v := .bool false) rfl rfl rfl rfl rfl (go0 rfl) rfl rfl ?_
 refine mvq (v := .bool false) rfl rfl rfl (go0 rfl) rfl ?_
 refine faq (v := .pointer (some ⟨g49_, 0, none⟩)) rfl rfl rfl (go1 (j := 16) (t := 367) rfl (by kernel_rfl) rfl rfl) h49 (L_.fa52_0 g49_) ?_
 refine ldq (v := .slice A49_0 l49_0.length k49_0) rfl rfl rfl (go1 (j := 16) (t := 367) rfl (by kernel_rfl) rfl rfl) rfl (fun _ b_ => load_s L_.u50 ((cell_of_row _ _ 0 _ _ _ (G49_ _ (jB (jB (jB (jB (jB (jB bb85 bb86) bb87) bb88) bb89) bb90) b_))).trans rfl)) ?_
 refine faq (v := .pointer (some ⟨g51_, 0, none⟩)) rfl rfl rfl (go1 (j := 16) (t := 367) rfl (by kernel_rfl) rfl rfl) h51 (L_.fa52_0 g51_) ?_
 refine ldq (v := .slice A51_0 l51_0.length k51_0) rfl rfl rfl (go1 (j := 16) (t := 367) rfl (by kernel_rfl) rfl rfl) rfl (fun _ b_ => load_s L_.u50 ((cell_of_row _ _ 0 _ _ _ (G51_ _ (jB (jB (jB (jB (jB (jB bb85 bb86) bb87) bb88) bb89) bb90) b_))).trans rfl)) ?_
 obtain ⟨r96_0, e96, h⟩ := bind_ h
 refine clq (v := .bool r96_0) Try.func80 (by kernel_rfl) rfl rfl rfl rfl (go1 (j := 16) (t := 367) rfl (by kernel_rfl) rfl rfl) (argc (v := .slice A49_0 l49_0.length k49_0) rfl (argc (v := .slice A51_0 l51_0.length k51_0) rfl argn)) (fun w_ b_ => (laws_jClues.calls k A49_0 k49_0 l49_0 A51_0 k51_0 l51_0 _ _ (C49_0 _ (jB (jB (jB (jB (jB (jB bb85 bb86) bb87) bb88) bb89) bb90) b_)) q49_0 (C51_0 _ (jB (jB (jB (jB (jB (jB bb85 bb86) bb87) bb88) bb89) bb90) b_)) q51_0 e96).mono ?_) ?_
 · rintro e w' ⟨rfl, bd⟩; exact ⟨rfl, jB b_ (Drawn0.below bd)⟩
 obtain ⟨c97, h⟩ := ifn h
 refine ntq (c := false) rfl rfl rfl (go1 (j := 16) (t := 367) rfl (by kernel_rfl) rfl rfl) rfl c97 ?_
 refine pkq (b := false) (v := .bool false) rfl rfl rfl rfl rfl (go0 rfl) rfl rfl ?_
 refine mvq (v := .bool false) rfl rfl rfl (go0 rfl) rfl ?_
 refine mvq (v := .bool r87_2) rfl rfl rfl (go1 (j := 24) (t := 375) rfl (by kernel_rfl) rfl rfl) rfl ?_
 refine mvq (v := .bool r88_2) rfl rfl rfl (go1 (j := 24) (t := 375) rfl (by kernel_rfl) rfl rfl) rfl ?_
 obtain ⟨c98, h⟩ := ifn h
 refine bbq (v := .bool (false)) rfl rfl rfl rfl (go1 (j := 24) (t := 375) rfl (by kernel_rfl) rfl rfl) rfl rfl (fun _ => (b_neq L_.u4 c98)) ?_
 refine pkq (b := false) (v := .bool false) rfl rfl rfl rfl rfl (go0 rfl) rfl rfl ?_
 refine mvq (v := .bool false) rfl rfl rfl (go0 rfl) rfl ?_
 refine mvq (v := .bool r87_1) rfl rfl rfl (go1 (j := 29) (t := 380) rfl (by kernel_rfl) rfl rfl) rfl ?_
 refine mvq (v := .bool r88_1) rfl rfl rfl (go1 (j := 29) (t := 380) rfl (by kernel_rfl) rfl rfl) rfl ?_
 obtain ⟨c99, h⟩ := ifn h
 refine bbq (v := .bool (false)) rfl rfl rfl rfl (go1 (j := 29) (t := 380) rfl (by kernel_rfl) rfl rfl) rfl rfl (fun _ => (b_neq L_.u4 c99)) ?_
 refine pkq (b := false) (v := .bool false) rfl rfl rfl rfl rfl (go0 rfl) rfl rfl ?_
 refine mvq (v := .bool false) rfl rfl rfl (go0 rfl) rfl ?_
 refine ldq (v := .agg #[.int .i64 r89_1, .int .i64 r89_2, .int .i64 r89_3]) rfl rfl rfl (go1 (j := 34) (t := 385) rfl (by kernel_rfl) rfl rfl) rfl (fun _ b_ => load_g L_.st58 L_.sz1_58 (Gg90_0 _ b_)) ?_
 obtain ⟨r100_0, e100, h⟩ := bind_ h
 refine clq (v := .bool r100_0) Try.func101 (by kernel_rfl) rfl rfl rfl rfl (go1 (j := 34) (t := 385) rfl (by kernel_rfl) rfl rfl) (argc (v := .agg #[.int .i64 r89_1, .int .i64 r89_2, .int .i64 r89_3]) rfl argn) (fun w_ b_ => (impl_IsClue.calls k r89_1 r89_2 r89_3 _ _ e100).mono ?_) ?_
 · rintro e w' ⟨rfl, bd⟩; exact ⟨rfl, jB b_ bd⟩
 refine ldq (v := .agg #[.int .i64 r89_1, .int .i64 r89_2, .int .i64 r89_3]) rfl rfl rfl (go1 (j := 34) (t := 385) rfl (by kernel_rfl) rfl rfl) rfl (fun _ b_ => load_g L_.st58 L_.sz1_58 (Gg90_0 _ b_)) ?_
 obtain ⟨r101_0, e101, h⟩ := bind_ h
 refine clq (v := .bool r101_0) Try.func102 (by kernel_rfl) rfl rfl rfl rfl (go1 (j := 34) (t := 385) rfl (by kernel_rfl) rfl rfl) (argc (v := .agg #[.int .i64 r89_1, .int .i64 r89_2, .int .i64 r89_3]) rfl argn) (fun w_ b_ => (spec_IsClue.calls k r89_1 r89_2 r89_3 _ _ e101).mono ?_) ?_
 · rintro e w' ⟨rfl, bd⟩; exact ⟨rfl, jB b_ bd⟩
 obtain ⟨c102, h⟩ := ifn h
 refine bbq (v := .bool (false)) rfl rfl rfl rfl (go1 (j := 34) (t := 385) rfl (by kernel_rfl) rfl rfl) rfl rfl (fun _ => (b_neq L_.u4 c102)) ?_
 refine pkq (b := false) (v := .bool false) rfl rfl rfl rfl rfl (go0 rfl) rfl rfl ?_
 refine mvq (v := .bool false) rfl rfl rfl (go0 rfl) rfl ?_
 refine mvq (v := .bool r87_2) rfl rfl rfl (go1 (j := 41) (t := 392) rfl (by kernel_rfl) rfl rfl) rfl ?_
 refine mvq (v := .bool r87_2) rfl rfl rfl (go1 (j := 41) (t := 392) rfl (by kernel_rfl) rfl rfl) rfl ?_
 obtain ⟨d103, e103, h⟩ := bind_ h
 replace h := ifn h
 obtain ⟨y103, h⟩ := h
 subst y103
 refine cutq 4 (fun f g => Same 8 f g ∧ g 398 = .bool false ∧ g 41 = .pointer (some ⟨g41_, 0, none⟩) ∧ g 42 = .pointer (some ⟨g42_, 0, none⟩) ∧ g 43 = .pointer (some ⟨g43_, 0, none⟩) ∧ g 44 = .bool b44 ∧ g 47 = .pointer (some ⟨g47_, 0, none⟩) ∧ g 48 = .int .i64 a48 ∧ g 49 = .pointer (some ⟨g49_, 0, none⟩) ∧ g 50 = .bool b50 ∧ g 392 = .bool false) ?_ ?_
 · clear h; have h := e103; clear e103
   rcases ifs h with ⟨c104, h⟩ | ⟨c104, h⟩
   · refine ldq (v := .agg #[.int .i64 r85_1, .int .i64 r85_2, .int .i64 r85_3]) rfl rfl rfl (go1 (j := 43) (t := 394) rfl (by kernel_rfl) rfl (Eq.trans rfl (vb c104))) rfl (fun _ b_ => load_g L_.st58 L_.sz1_58 (Gg86_0 _ (jB (jB (jB (jB bb87 bb88) bb89) bb90) b_))) ?_
     obtain ⟨r105_0, e105, h⟩ := bind_ h
     refine clq (v := .bool r105_0) Try.func101 (by kernel_rfl) rfl rfl rfl rfl (go1 (j := 43) (t := 394) rfl (by kernel_rfl) rfl (Eq.trans rfl (vb c104))) (argc (v := .agg #[.int .i64 r85_1, .int .i64 r85_2, .int .i64 r85_3]) rfl argn) (fun w_ b_ => (impl_IsClue.calls k r85_1 r85_2 r85_3 _ _ e105).mono ?_) ?_
     · rintro e w' ⟨rfl, bd⟩; exact ⟨rfl, jB b_ bd⟩
     refine ntq (c := !r105_0) rfl rfl rfl (go1 (j := 43) (t := 394) rfl (by kernel_rfl) rfl (Eq.trans rfl (vb c104))) rfl rfl ?_
     refine pkq (b := true) (v := .bool (!r105_0)) rfl rfl rfl rfl rfl (go1 (j := 41) (t := 392) rfl (by kernel_rfl) rfl rfl) (Eq.trans rfl (vb c104)) rfl ?_
     refine wpQuiet_nil ?_
     exact ⟨_, rfl, (Same.put (Same.put (Same.put (Same.put (Same.refl _ _) rfl) rfl) rfl) rfl), (Eq.trans rfl (vb (jM h))), h41, h42, h43, h44, h47, h48, h49, h50, rfl⟩
   refine skpq (no1 (j := 43) (t := 394) rfl (by kernel_rfl) rfl (Eq.trans rfl (vb c104)) rfl) rfl ?_
   refine skpq (no1 (j := 43) (t := 394) rfl (by kernel_rfl) rfl (Eq.trans rfl (vb c104)) rfl) rfl ?_
   refine skpq (no1 (j := 43) (t := 394) rfl (by kernel_rfl) rfl (Eq.trans rfl (vb c104)) rfl) rfl ?_
   refine pkq (b := false) (v := .bool false) rfl rfl rfl rfl rfl (go1 (j := 41) (t := 392) rfl (by kernel_rfl) rfl rfl) (Eq.trans rfl (vb c104)) rfl ?_
   refine wpQuiet_nil ?_
   exact ⟨_, rfl, (Same.put (Same.put (Same.put (Same.put (Same.refl _ _) rfl) rfl) rfl) rfl), (Eq.trans rfl (vb (jM h))), h41, h42, h43, h44, h47, h48, h49, h50, rfl⟩
 clear e103; rintro g103 ⟨S103, x103_398, x103_41, x103_42, x103_43, x103_44, x103_47, x103_48, x103_49, x103_50, x103_392⟩
 refine pkq (b := false) (v := .bool false) rfl rfl rfl rfl rfl (go0 rfl) x103_392 x103_398 ?_
 refine wpQuiet_nil ?_
 intro w91 bb91
 refine then_n ?_
 refine cF ?_ rfl rfl
 refine wp_skip ?_
 refine then_n ?_
 refine wp_seq ?_
 refine wp_seq ?_
 refine wp_region_lit ?_
 refine m0 (.bool b44) rfl rfl rfl rfl x103_44 ?_
 refine nilt ?_
 rcases ifs h with ⟨c106, h⟩ | ⟨c106, h⟩
 · refine cT ?_ (Eq.trans rfl (vb c106)) rfl
   refine wp_seq ?_
   refine wp_region_lit ?_
   refine ld_ (v := .agg #[.slice A43_0 l43_0.length k43_0]) rfl rfl rfl (go0 rfl) x103_43 (load_g L_.st52 L_.sz1_52 (G43_ _ (jB (jB (jB (jB (jB (jB bb85 bb86) bb87) bb88) bb89) bb90) bb91))) ?_
   refine fa_ (v := .pointer (some ⟨g41_, 0, none⟩)) rfl rfl rfl (go0 rfl) x103_41 (L_.fa52_0 g41_) ?_
   refine ld_ (v := .slice A41_0 l41_0.length k41_0) rfl rfl rfl (go0 rfl) rfl (load_s L_.u50 ((cell_of_row _ _ 0 _ _ _ (G41_ _ (jB (jB (jB (jB (jB (jB bb85 bb86) bb87) bb88) bb89) bb90) bb91))).trans rfl)) ?_
   refine ln_ L_.u50 rfl rfl rfl (go0 rfl) rfl ?_
   obtain ⟨⟨r107_1, r107_2⟩, e107, h⟩ := bind_ h
   refine cl_ Try.func96 (by kernel_rfl) rfl rfl rfl rfl (go0 rfl) (argc (v := .agg #[.slice A43_0 l43_0.length k43_0]) rfl (argc (v := .int .i64 (l41_0.length : Int)) rfl argn)) ?_
   refine (impl_DropClue.calls k A43_0 k43_0 l43_0 (l41_0.length : Int) _ _ _ (C43_0 _ (jB (jB (jB (jB (jB (jB bb85 bb86) bb87) bb88) bb89) bb90) bb91)) q43_0 e107).mono ?_
   rintro e w107 ⟨u107_0, rfl, ou107_0, bb107⟩
   obtain ⟨Au107_0, ku107_0, xu107_0, qu107_0, Cu107_0⟩ := R3 ou107_0; subst xu107_0
   refine ⟨_, rfl, ?_⟩
   refine m0 (.tuple #[.agg #[.slice Au107_0 r107_1.length ku107_0], .bool r107_2]) rfl rfl rfl rfl rfl ?_
   refine x0 (.agg #[.slice Au107_0 r107_1.length ku107_0]) rfl rfl rfl rfl rfl rfl ?_
   refine x0 (.bool r107_2) rfl rfl rfl rfl rfl rfl ?_
   refine av_ (vs := #[.slice Au107_0 r107_1.length ku107_0]) rfl rfl rfl rfl rfl rfl rfl rfl L_.sz52 rfl (by simp [Value.oneCell']) rfl ?_
   intro g108_0 w108 hgg108_0 bb108
   have Gg108_0 := on_blk hgg108_0
   refine a0 (.bool r107_2) rfl rfl rfl rfl rfl ?_
   refine nilt ?_
   refine wp_seq ?_
   refine startq (by kernel_rfl) (by kernel_rfl) ?_
   obtain ⟨c110, h⟩ := ify h
   refine mvq (v := .bool true) rfl rfl rfl (go0 rfl) (Eq.trans rfl (vb c110)) ?_
   refine ntq (c := false) rfl rfl rfl (go0 rfl) rfl rfl ?_
   refine mvq (v := .bool false) rfl rfl rfl (go0 rfl) rfl ?_
   refine faq (v := .pointer (some ⟨g108_0, 0, none⟩)) rfl rfl rfl (go1 (j := 2) (t := 411) rfl (by kernel_rfl) rfl rfl) rfl (L_.fa52_0 g108_0) ?_
   refine ldq (v := .slice Au107_0 r107_1.length ku107_0) rfl rfl rfl (go1 (j := 2) (t := 411) rfl (by kernel_rfl) rfl rfl) rfl (fun _ b_ => load_s L_.u50 ((cell_of_row _ _ 0 _ _ _ (Gg108_0 _ b_)).trans rfl)) ?_
   refine faq (v := .pointer (some ⟨g41_, 0, none⟩)) rfl rfl rfl (go1 (j := 2) (t := 411) rfl (by kernel_rfl) rfl rfl) x103_41 (L_.fa52_0 g41_) ?_
   refine ldq (v := .slice A41_0 l41_0.length k41_0) rfl rfl rfl (go1 (j := 2) (t := 411) rfl (by kernel_rfl) rfl rfl) rfl (fun _ b_ => load_s L_.u50 ((cell_of_row _ _ 0 _ _ _ (G41_ _ (jB (jB (jB (jB (jB (jB (jB (jB (jB bb85 bb86) bb87) bb88) bb89) bb90) bb91) bb107) bb108) b_))).trans rfl)) ?_
   obtain ⟨r111_0, e111, h⟩ := bind_ h
   refine clq (v := .bool r111_0) Try.func80 (by kernel_rfl) rfl rfl rfl rfl (go1 (j := 2) (t := 411) rfl (by kernel_rfl) rfl rfl) (argc (v := .slice Au107_0 r107_1.length ku107_0) rfl (argc (v := .slice A41_0 l41_0.length k41_0) rfl argn)) (fun w_ b_ => (laws_jClues.calls k Au107_0 ku107_0 r107_1 A41_0 k41_0 l41_0 _ _ (Cu107_0 _ (jB bb108 b_)) qu107_0 (C41_0 _ (jB (jB (jB (jB (jB (jB (jB (jB (jB bb85 bb86) bb87) bb88) bb89) bb90) bb91) bb107) bb108) b_)) q41_0 e111).mono ?_) ?_
   · rintro e w' ⟨rfl, bd⟩; exact ⟨rfl, jB b_ (Drawn0.below bd)⟩
   obtain ⟨c112, h⟩ := ifn h
   refine ntq (c := false) rfl rfl rfl (go1 (j := 2) (t := 411) rfl (by kernel_rfl) rfl rfl) rfl c112 ?_
   refine pkq (b := false) (v := .bool false) rfl rfl rfl rfl rfl (go0 rfl) rfl rfl ?_
   refine mvq (v := .bool false) rfl rfl rfl (go0 rfl) rfl ?_
   refine faq (v := .pointer (some ⟨g43_, 0, none⟩)) rfl rfl rfl (go1 (j := 10) (t := 419) rfl (by kernel_rfl) rfl rfl) x103_43 (L_.fa52_0 g43_) ?_
   refine ldq (v := .slice A43_0 l43_0.length k43_0) rfl rfl rfl (go1 (j := 10) (t := 419) rfl (by kernel_rfl) rfl rfl) rfl (fun _ b_ => load_s L_.u50 ((cell_of_row _ _ 0 _ _ _ (G43_ _ (jB (jB (jB (jB (jB (jB (jB (jB (jB bb85 bb86) bb87) bb88) bb89) bb90) bb91) bb107) bb108) b_))).trans rfl)) ?_
   refine faq (v := .pointer (some ⟨g41_, 0, none⟩)) rfl rfl rfl (go1 (j := 10) (t := 419) rfl (by kernel_rfl) rfl rfl) x103_41 (L_.fa52_0 g41_) ?_
   refine ldq (v := .slice A41_0 l41_0.length k41_0) rfl rfl rfl (go1 (j := 10) (t := 419) rfl (by kernel_rfl) rfl rfl) rfl (fun _ b_ => load_s L_.u50 ((cell_of_row _ _ 0 _ _ _ (G41_ _ (jB (jB (jB (jB (jB (jB (jB (jB (jB bb85 bb86) bb87) bb88) bb89) bb90) bb91) bb107) bb108) b_))).trans rfl)) ?_
   refine lnq L_.u50 rfl rfl rfl (go1 (j := 10) (t := 419) rfl (by kernel_rfl) rfl rfl) rfl ?_
   obtain ⟨c113, h⟩ := ify h
   replace c113 := bnd c113
   obtain ⟨ad114, ead114, xad114⟩ := at_on z58 (fun x_ => [.int .i64 x_.f0, .int .i64 x_.f1, .int .i64 x_.f2]) k58_open (On.adv C43_0 (jB (jB (jB (jB (jB (jB (jB (jB bb85 bb86) bb87) bb88) bb89) bb90) bb91) bb107) bb108)) (l41_0.length : Int) c113.1 (by have := c113.2; omega)
   refine ixnq (q := (l41_0.length : Int)) L_.u50 L_.zn50 rfl rfl rfl rfl (go1 (j := 10) (t := 419) rfl (by kernel_rfl) rfl rfl) rfl rfl ead114 c113 ?_
   refine ldq (v := .agg #[.int .i64 ((rd_T58 l43_0 (l41_0.length : Int)).f0), .int .i64 ((rd_T58 l43_0 (l41_0.length : Int)).f1), .int .i64 ((rd_T58 l43_0 (l41_0.length : Int)).f2)]) rfl rfl rfl (go1 (j := 10) (t := 419) rfl (by kernel_rfl) rfl rfl) rfl (fun _ b_ => load_e L_.st58 L_.sz1_58 (xad114 _ b_)) ?_
   refine ldq (v := .agg #[.int .i64 a42_0, .int .i64 a42_1, .int .i64 a42_2]) rfl rfl rfl (go1 (j := 10) (t := 419) rfl (by kernel_rfl) rfl rfl) x103_42 (fun _ b_ => load_g L_.st58 L_.sz1_58 (G42_ _ (jB (jB (jB (jB (jB (jB (jB (jB (jB bb85 bb86) bb87) bb88) bb89) bb90) bb91) bb107) bb108) b_))) ?_
   obtain ⟨c115, h⟩ := ifn h
   refine binq (v := .bool (false)) rfl rfl rfl rfl (go1 (j := 10) (t := 419) rfl (by kernel_rfl) rfl rfl) rfl rfl (fun _ => (g_agg L_.eg58)) (fun _ => (a_neq (eqA58 _ _ _ _ _ _ _ _) c115)) ?_
   refine pkq (b := false) (v := .bool false) rfl rfl rfl rfl rfl (go0 rfl) rfl rfl ?_
   refine wpQuiet_nil ?_
   intro w109 bb109
   refine then_n ?_
   refine cF ?_ rfl rfl
   refine wp_skip ?_
   refine then_n ?_
   exact L_.w116 k r ws _ _ A47_0 k47_0 l47_0 q47_0 (On.adv C47_0 (jB (jB (jB (jB (jB (jB (jB (jB (jB bb85 bb86) bb87) bb88) bb89) bb90) bb91) bb107) bb108) bb109)) g47_ x103_47 (On.adv G47_ (jB (jB (jB (jB (jB (jB (jB (jB (jB bb85 bb86) bb87) bb88) bb89) bb90) bb91) bb107) bb108) bb109)) a48 x103_48 A49_0 k49_0 l49_0 q49_0 (On.adv C49_0 (jB (jB (jB (jB (jB (jB (jB (jB (jB bb85 bb86) bb87) bb88) bb89) bb90) bb91) bb107) bb108) bb109)) g49_ x103_49 (On.adv G49_ (jB (jB (jB (jB (jB (jB (jB (jB (jB bb85 bb86) bb87) bb88) bb89) bb90) bb91) bb107) bb108) bb109)) b50 x103_50 (jB B0 (jB (jB (jB (jB (jB (jB (jB (jB (jB bb85 bb86) bb87) bb88) bb89) bb90) bb91) bb107) bb108) bb109)) h
 refine cF ?_ (Eq.trans rfl (vb c106)) rfl
 refine wp_skip ?_
 refine then_n ?_
 exact L_.w116 k r ws _ _ A47_0 k47_0 l47_0 q47_0 (On.adv C47_0 (jB (jB (jB (jB (jB (jB bb85 bb86) bb87) bb88) bb89) bb90) bb91)) g47_ x103_47 (On.adv G47_ (jB (jB (jB (jB (jB (jB bb85 bb86) bb87) bb88) bb89) bb90) bb91)) a48 x103_48 A49_0 k49_0 l49_0 q49_0 (On.adv C49_0 (jB (jB (jB (jB (jB (jB bb85 bb86) bb87) bb88) bb89) bb90) bb91)) g49_ x103_49 (On.adv G49_ (jB (jB (jB (jB (jB (jB bb85 bb86) bb87) bb88) bb89) bb90) bb91)) b50 x103_50 (jB B0 (jB (jB (jB (jB (jB (jB bb85 bb86) bb87) bb88) bb89) bb90) bb91)) h
def laws_FnPiecesHidden.p71 (k : Nat) (l1 : List Int) : Option Bool := (spec_DrawAddClue.f k l1).bind fun t72 => (impl_AddClue.f k t72.1 t72.2.1 t72.2.2.1 t72.2.2.2).bind fun t74 => (spec_AddClue.f k t72.1 t72.2.1 t72.2.2.1 t72.2.2.2).bind fun t76 => (spec_DrawDropClue.f k l1).bind fun t78 => (impl_DropClue.f k t78.1 t78.2).bind fun t80 => (spec_DropClue.f k t78.1 t78.2).bind fun t82 => laws_FnPiecesHidden.p84 k l1 t72.1 t72.2.1 t72.2.2.1 t72.2.2.2 t74.1 t74.2 t76.1 t76.2 t78.1 t78.2 t80.1 t80.2 t82.1 t82.2
theorem L_.w71 (k : Nat) (r : Bool) (ws : World) (f0 : Nat → Value) (w0 : World) (A1 : Option Addr) (k1 : Nat) (l1 : List Int) (h1 : f0 1 = .slice A1 l1.length k1) (q1 : l1.length ≤ k1) (C1 : On w0 fun x => Kd.C (Kd.int .u8) x A1 l1.length l1) (B0 : Below ws.heap.size ws w0) (h : laws_FnPiecesHidden.p71 k l1 = some r) : Code.wp Try.prog (srn 13 L_.B) (L_.Q0 ws r) (fr 457 f0) w0 := by
 unfold laws_FnPiecesHidden.p71 at h
 refine wp_seq ?_
 refine wp_region_lit ?_
 refine m0 (.slice A1 l1.length k1) rfl rfl rfl rfl h1 ?_
 obtain ⟨⟨r72_1, r72_2, r72_3, r72_4⟩, e72, h⟩ := bind_ h
 refine cl_ Try.func92 (by kernel_rfl) rfl rfl rfl rfl (go0 rfl) (argc (v := .slice A1 l1.length k1) rfl argn) ?_
 refine (spec_DrawAddClue.calls k A1 k1 l1 _ _ _ _ _ (C1 _ (jU _ _)) q1 e72).mono ?_
 rintro e w72 ⟨u72_0, rfl, ou72_0, bb72⟩
 obtain ⟨Au72_0, ku72_0, xu72_0, qu72_0, Cu72_0⟩ := R3 ou72_0; subst xu72_0
 refine ⟨_, rfl, ?_⟩
 refine m0 (.tuple #[.agg #[.slice Au72_0 r72_1.length ku72_0], .agg #[.int .i64 r72_2, .int .i64 r72_3, .int .i64 r72_4]]) rfl rfl rfl rfl rfl ?_
 refine x0 (.agg #[.slice Au72_0 r72_1.length ku72_0]) rfl rfl rfl rfl rfl rfl ?_
 refine x0 (.agg #[.int .i64 r72_2, .int .i64 r72_3, .int .i64 r72_4]) rfl rfl rfl rfl rfl rfl ?_
 refine av2_ (vs := #[.slice Au72_0 r72_1.length ku72_0]) (vs2 := #[.int .i64 r72_2, .int .i64 r72_3, .int .i64 r72_4]) rfl rfl rfl rfl rfl rfl rfl rfl rfl rfl rfl rfl rfl rfl L_.sz52 L_.sz58 rfl rfl (by simp [Value.oneCell']) (by simp [Value.oneCell']) rfl rfl ?_
 intro g73_0 g73_1 w73 hgg73_0 hgg73_1 bb73
 have Gg73_0 := on_blk hgg73_0
 have Gg73_1 := on_blk hgg73_1
 refine nilt ?_
 refine wp_seq ?_
 refine wp_region_lit ?_
 refine ld_ (v := .agg #[.slice Au72_0 r72_1.length ku72_0]) rfl rfl rfl (go0 rfl) rfl (load_g L_.st52 L_.sz1_52 (Gg73_0 _ (jU _ _))) ?_
 refine ld_ (v := .agg #[.int .i64 r72_2, .int .i64 r72_3, .int .i64 r72_4]) rfl rfl rfl (go0 rfl) rfl (load_g L_.st58 L_.sz1_58 (Gg73_1 _ (jU _ _))) ?_
 obtain ⟨⟨r74_1, r74_2⟩, e74, h⟩ := bind_ h
 refine cl_ Try.func93 (by kernel_rfl) rfl rfl rfl rfl (go0 rfl) (argc (v := .agg #[.slice Au72_0 r72_1.length ku72_0]) rfl (argc (v := .agg #[.int .i64 r72_2, .int .i64 r72_3, .int .i64 r72_4]) rfl argn)) ?_
 refine (impl_AddClue.calls k Au72_0 ku72_0 r72_1 r72_2 r72_3 r72_4 _ _ _ (Cu72_0 _ bb73) qu72_0 e74).mono ?_
 rintro e w74 ⟨u74_0, rfl, ou74_0, bb74⟩
 obtain ⟨Au74_0, ku74_0, xu74_0, qu74_0, Cu74_0⟩ := R3 ou74_0; subst xu74_0
 refine ⟨_, rfl, ?_⟩
 refine m0 (.tuple #[.agg #[.slice Au74_0 r74_1.length ku74_0], .bool r74_2]) rfl rfl rfl rfl rfl ?_
 refine x0 (.agg #[.slice Au74_0 r74_1.length ku74_0]) rfl rfl rfl rfl rfl rfl ?_
 refine x0 (.bool r74_2) rfl rfl rfl rfl rfl rfl ?_
 refine av_ (vs := #[.slice Au74_0 r74_1.length ku74_0]) rfl rfl rfl rfl rfl rfl rfl rfl L_.sz52 rfl (by simp [Value.oneCell']) rfl ?_
 intro g75_0 w75 hgg75_0 bb75
 have Gg75_0 := on_blk hgg75_0
 refine a0 (.bool r74_2) rfl rfl rfl rfl rfl ?_
 refine nilt ?_
 refine wp_seq ?_
 refine wp_region_lit ?_
 refine ld_ (v := .agg #[.slice Au72_0 r72_1.length ku72_0]) rfl rfl rfl (go0 rfl) rfl (load_g L_.st52 L_.sz1_52 (Gg73_0 _ (jB bb74 bb75))) ?_
 refine ld_ (v := .agg #[.int .i64 r72_2, .int .i64 r72_3, .int .i64 r72_4]) rfl rfl rfl (go0 rfl) rfl (load_g L_.st58 L_.sz1_58 (Gg73_1 _ (jB bb74 bb75))) ?_
 obtain ⟨⟨r76_1, r76_2⟩, e76, h⟩ := bind_ h
 refine cl_ Try.func94 (by kernel_rfl) rfl rfl rfl rfl (go0 rfl) (argc (v := .agg #[.slice Au72_0 r72_1.length ku72_0]) rfl (argc (v := .agg #[.int .i64 r72_2, .int .i64 r72_3, .int .i64 r72_4]) rfl argn)) ?_
 refine (spec_AddClue.calls k Au72_0 ku72_0 r72_1 r72_2 r72_3 r72_4 _ _ _ (Cu72_0 _ (jB (jB bb73 bb74) bb75)) qu72_0 e76).mono ?_
 rintro e w76 ⟨u76_0, rfl, ou76_0, bb76⟩
 obtain ⟨Au76_0, ku76_0, xu76_0, qu76_0, Cu76_0⟩ := R3 ou76_0; subst xu76_0
 refine ⟨_, rfl, ?_⟩
 refine m0 (.tuple #[.agg #[.slice Au76_0 r76_1.length ku76_0], .bool r76_2]) rfl rfl rfl rfl rfl ?_
 refine x0 (.agg #[.slice Au76_0 r76_1.length ku76_0]) rfl rfl rfl rfl rfl rfl ?_
 refine x0 (.bool r76_2) rfl rfl rfl rfl rfl rfl ?_
 refine av_ (vs := #[.slice Au76_0 r76_1.length ku76_0]) rfl rfl rfl rfl rfl rfl rfl rfl L_.sz52 rfl (by simp [Value.oneCell']) rfl ?_
 intro g77_0 w77 hgg77_0 bb77
 have Gg77_0 := on_blk hgg77_0
 refine a0 (.bool r76_2) rfl rfl rfl rfl rfl ?_
 refine nilt ?_
 refine wp_seq ?_
 refine wp_region_lit ?_
 refine m0 (.slice A1 l1.length k1) rfl rfl rfl rfl h1 ?_
 obtain ⟨⟨r78_1, r78_2⟩, e78, h⟩ := bind_ h
 refine cl_ Try.func95 (by kernel_rfl) rfl rfl rfl rfl (go0 rfl) (argc (v := .slice A1 l1.length k1) rfl argn) ?_
 refine (spec_DrawDropClue.calls k A1 k1 l1 _ _ _ (C1 _ (jB (jB (jB (jB (jB bb72 bb73) bb74) bb75) bb76) bb77)) q1 e78).mono ?_
 rintro e w78 ⟨u78_0, rfl, ou78_0, bb78⟩
 obtain ⟨Au78_0, ku78_0, xu78_0, qu78_0, Cu78_0⟩ := R3 ou78_0; subst xu78_0
 refine ⟨_, rfl, ?_⟩
 refine m0 (.tuple #[.agg #[.slice Au78_0 r78_1.length ku78_0], .int .i64 r78_2]) rfl rfl rfl rfl rfl ?_
 refine x0 (.agg #[.slice Au78_0 r78_1.length ku78_0]) rfl rfl rfl rfl rfl rfl ?_
 refine x0 (.int .i64 r78_2) rfl rfl rfl rfl rfl rfl ?_
 refine av_ (vs := #[.slice Au78_0 r78_1.length ku78_0]) rfl rfl rfl rfl rfl rfl rfl rfl L_.sz52 rfl (by simp [Value.oneCell']) rfl ?_
 intro g79_0 w79 hgg79_0 bb79
 have Gg79_0 := on_blk hgg79_0
 refine a0 (.int .i64 r78_2) rfl rfl rfl rfl rfl ?_
 refine nilt ?_
 refine wp_seq ?_
 refine wp_region_lit ?_
 refine ld_ (v := .agg #[.slice Au78_0 r78_1.length ku78_0]) rfl rfl rfl (go0 rfl) rfl (load_g L_.st52 L_.sz1_52 (Gg79_0 _ (jU _ _))) ?_
 refine m0 (.int .i64 r78_2) rfl rfl rfl rfl rfl ?_
 obtain ⟨⟨r80_1, r80_2⟩, e80, h⟩ := bind_ h
 refine cl_ Try.func96 (by kernel_rfl) rfl rfl rfl rfl (go0 rfl) (argc (v := .agg #[.slice Au78_0 r78_1.length ku78_0]) rfl (argc (v := .int .i64 r78_2) rfl argn)) ?_
 refine (impl_DropClue.calls k Au78_0 ku78_0 r78_1 r78_2 _ _ _ (Cu78_0 _ bb79) qu78_0 e80).mono ?_
 rintro e w80 ⟨u80_0, rfl, ou80_0, bb80⟩
 obtain ⟨Au80_0, ku80_0, xu80_0, qu80_0, Cu80_0⟩ := R3 ou80_0; subst xu80_0
 refine ⟨_, rfl, ?_⟩
 refine m0 (.tuple #[.agg #[.slice Au80_0 r80_1.length ku80_0], .bool r80_2]) rfl rfl rfl rfl rfl ?_
 refine x0 (.agg #[.slice Au80_0 r80_1.length ku80_0]) rfl rfl rfl rfl rfl rfl ?_
 refine x0 (.bool r80_2) rfl rfl rfl rfl rfl rfl ?_
 refine av_ (vs := #[.slice Au80_0 r80_1.length ku80_0]) rfl rfl rfl rfl rfl rfl rfl rfl L_.sz52 rfl (by simp [Value.oneCell']) rfl ?_
 intro g81_0 w81 hgg81_0 bb81
 have Gg81_0 := on_blk hgg81_0
 refine a0 (.bool r80_2) rfl rfl rfl rfl rfl ?_
 refine nilt ?_
 refine wp_seq ?_
 refine wp_region_lit ?_
 refine ld_ (v := .agg #[.slice Au78_0 r78_1.length ku78_0]) rfl rfl rfl (go0 rfl) rfl (load_g L_.st52 L_.sz1_52 (Gg79_0 _ (jB bb80 bb81))) ?_
 refine m0 (.int .i64 r78_2) rfl rfl rfl rfl rfl ?_
 obtain ⟨⟨r82_1, r82_2⟩, e82, h⟩ := bind_ h
 refine cl_ Try.func97 (by kernel_rfl) rfl rfl rfl rfl (go0 rfl) (argc (v := .agg #[.slice Au78_0 r78_1.length ku78_0]) rfl (argc (v := .int .i64 r78_2) rfl argn)) ?_
 refine (spec_DropClue.calls k Au78_0 ku78_0 r78_1 r78_2 _ _ _ (Cu78_0 _ (jB (jB bb79 bb80) bb81)) qu78_0 e82).mono ?_
 rintro e w82 ⟨u82_0, rfl, ou82_0, bb82⟩
 obtain ⟨Au82_0, ku82_0, xu82_0, qu82_0, Cu82_0⟩ := R3 ou82_0; subst xu82_0
 refine ⟨_, rfl, ?_⟩
 refine m0 (.tuple #[.agg #[.slice Au82_0 r82_1.length ku82_0], .bool r82_2]) rfl rfl rfl rfl rfl ?_
 refine x0 (.agg #[.slice Au82_0 r82_1.length ku82_0]) rfl rfl rfl rfl rfl rfl ?_
 refine x0 (.bool r82_2) rfl rfl rfl rfl rfl rfl ?_
 refine av_ (vs := #[.slice Au82_0 r82_1.length ku82_0]) rfl rfl rfl rfl rfl rfl rfl rfl L_.sz52 rfl (by simp [Value.oneCell']) rfl ?_
 intro g83_0 w83 hgg83_0 bb83
 have Gg83_0 := on_blk hgg83_0
 refine a0 (.bool r82_2) rfl rfl rfl rfl rfl ?_
 refine nilt ?_
 exact L_.w84 k r ws _ _ A1 k1 l1 h1 q1 (On.adv C1 (jB (jB (jB (jB (jB (jB (jB (jB (jB (jB (jB bb72 bb73) bb74) bb75) bb76) bb77) bb78) bb79) bb80) bb81) bb82) bb83)) Au72_0 ku72_0 r72_1 qu72_0 (On.adv Cu72_0 (jB (jB (jB (jB (jB (jB (jB (jB (jB (jB bb73 bb74) bb75) bb76) bb77) bb78) bb79) bb80) bb81) bb82) bb83)) g73_0 rfl (On.adv Gg73_0 (jB (jB (jB (jB (jB (jB (jB (jB (jB bb74 bb75) bb76) bb77) bb78) bb79) bb80) bb81) bb82) bb83)) r72_2 r72_3 r72_4 g73_1 rfl (On.adv Gg73_1 (jB (jB (jB (jB (jB (jB (jB (jB (jB bb74 bb75) bb76) bb77) bb78) bb79) bb80) bb81) bb82) bb83)) Au74_0 ku74_0 r74_1 qu74_0 (On.adv Cu74_0 (jB (jB (jB (jB (jB (jB (jB (jB bb75 bb76) bb77) bb78) bb79) bb80) bb81) bb82) bb83)) g75_0 rfl (On.adv Gg75_0 (jB (jB (jB (jB (jB (jB (jB bb76 bb77) bb78) bb79) bb80) bb81) bb82) bb83)) r74_2 rfl Au76_0 ku76_0 r76_1 qu76_0 (On.adv Cu76_0 (jB (jB (jB (jB (jB (jB bb77 bb78) bb79) bb80) bb81) bb82) bb83)) g77_0 rfl (On.adv Gg77_0 (jB (jB (jB (jB (jB bb78 bb79) bb80) bb81) bb82) bb83)) r76_2 rfl Au78_0 ku78_0 r78_1 qu78_0 (On.adv Cu78_0 (jB (jB (jB (jB bb79 bb80) bb81) bb82) bb83)) g79_0 rfl (On.adv Gg79_0 (jB (jB (jB bb80 bb81) bb82) bb83)) r78_2 rfl Au80_0 ku80_0 r80_1 qu80_0 (On.adv Cu80_0 (jB (jB bb81 bb82) bb83)) g81_0 rfl (On.adv Gg81_0 (jB bb82 bb83)) r80_2 rfl Au82_0 ku82_0 r82_1 qu82_0 (On.adv Cu82_0 bb83) g83_0 rfl Gg83_0 r82_2 rfl (jB B0 (jB (jB (jB (jB (jB (jB (jB (jB (jB (jB (jB bb72 bb73) bb74) bb75) bb76) bb77) bb78) bb79) bb80) bb81) bb82) bb83)) h
def laws_FnPiecesHidden.p46 (k : Nat) (l1 : List Int) : Option Bool := (spec_DrawHarderPuzzle.f k l1).bind fun r47_1 => (impl_HarderPuzzle.f k r47_1).bind fun t49 => (spec_HarderPuzzle.f k r47_1).bind fun t51 => (impl_IsSolved.f k r47_1).bind fun t53 => if (t49.2 != t51.2) = true then none else (laws_jClues.f k t49.1 t51.1).bind fun r55_0 => if (!r55_0) = true then none else (if t53.2 = true then (some t53.1) else (some false)).bind fun d57 => if (t49.2 != d57) = true then none else if t49.2 = true then ((impl_Solutions.f k r47_1).bind fun t61 => (impl_Solutions.f k t49.1).bind fun t62 => (impl_NeedlessClues.f k t49.1).bind fun t63 => if t61.2 = true then (if t62.2 = true then ((laws_jRows.f k t61.1 t62.1).bind fun r66_0 => if (!r66_0) = true then none else if t63.2 = true then (if ((t63.1.length : Int) != 0) = true then none else if (decide ((r47_1.length : Int) < (t49.1.length : Int))) = true then none else laws_FnPiecesHidden.p71 k l1) else none) else none) else none) else (laws_FnPiecesHidden.p71 k l1)
theorem L_.w46 (k : Nat) (r : Bool) (ws : World) (f0 : Nat → Value) (w0 : World) (A1 : Option Addr) (k1 : Nat) (l1 : List Int) (h1 : f0 1 = .slice A1 l1.length k1) (q1 : l1.length ≤ k1) (C1 : On w0 fun x => Kd.C (Kd.int .u8) x A1 l1.length l1) (B0 : Below ws.heap.size ws w0) (h : laws_FnPiecesHidden.p46 k l1 = some r) : Code.wp Try.prog (srn 7 L_.B) (L_.Q0 ws r) (fr 457 f0) w0 := by
 unfold laws_FnPiecesHidden.p46 at h
 refine wp_seq ?_
 refine wp_region_lit ?_
 refine m0 (.slice A1 l1.length k1) rfl rfl rfl rfl h1 ?_
 obtain ⟨r47_1, e47, h⟩ := bind_ h
 refine cl_ Try.func85 (by kernel_rfl) rfl rfl rfl rfl (go0 rfl) (argc (v := .slice A1 l1.length k1) rfl argn) ?_
 refine (spec_DrawHarderPuzzle.calls k A1 k1 l1 _ _ (C1 _ (jU _ _)) q1 e47).mono ?_
 rintro e w47 ⟨u47_0, rfl, ou47_0, bb47⟩
 obtain ⟨Au47_0, ku47_0, xu47_0, qu47_0, Cu47_0⟩ := R3 ou47_0; subst xu47_0
 refine ⟨_, rfl, ?_⟩
 refine av_ (vs := #[.slice Au47_0 r47_1.length ku47_0]) rfl rfl rfl rfl rfl rfl rfl rfl L_.sz52 rfl (by simp [Value.oneCell']) rfl ?_
 intro g48_0 w48 hgg48_0 bb48
 have Gg48_0 := on_blk hgg48_0
 refine nilt ?_
 refine wp_seq ?_
 refine wp_region_lit ?_
 refine ld_ (v := .agg #[.slice Au47_0 r47_1.length ku47_0]) rfl rfl rfl (go0 rfl) rfl (load_g L_.st52 L_.sz1_52 (Gg48_0 _ (jU _ _))) ?_
 obtain ⟨⟨r49_1, r49_2⟩, e49, h⟩ := bind_ h
 refine cl_ Try.func86 (by kernel_rfl) rfl rfl rfl rfl (go0 rfl) (argc (v := .agg #[.slice Au47_0 r47_1.length ku47_0]) rfl argn) ?_
 refine (impl_HarderPuzzle.calls k Au47_0 ku47_0 r47_1 _ _ _ (Cu47_0 _ bb48) qu47_0 e49).mono ?_
 rintro e w49 ⟨u49_0, rfl, ou49_0, bb49⟩
 obtain ⟨Au49_0, ku49_0, xu49_0, qu49_0, Cu49_0⟩ := R3 ou49_0; subst xu49_0
 refine ⟨_, rfl, ?_⟩
 refine m0 (.tuple #[.agg #[.slice Au49_0 r49_1.length ku49_0], .bool r49_2]) rfl rfl rfl rfl rfl ?_
 refine x0 (.agg #[.slice Au49_0 r49_1.length ku49_0]) rfl rfl rfl rfl rfl rfl ?_
 refine x0 (.bool r49_2) rfl rfl rfl rfl rfl rfl ?_
 refine av_ (vs := #[.slice Au49_0 r49_1.length ku49_0]) rfl rfl rfl rfl rfl rfl rfl rfl L_.sz52 rfl (by simp [Value.oneCell']) rfl ?_
 intro g50_0 w50 hgg50_0 bb50
 have Gg50_0 := on_blk hgg50_0
 refine a0 (.bool r49_2) rfl rfl rfl rfl rfl ?_
 refine nilt ?_
 refine wp_seq ?_
 refine wp_region_lit ?_
 refine ld_ (v := .agg #[.slice Au47_0 r47_1.length ku47_0]) rfl rfl rfl (go0 rfl) rfl (load_g L_.st52 L_.sz1_52 (Gg48_0 _ (jB bb49 bb50))) ?_
 obtain ⟨⟨r51_1, r51_2⟩, e51, h⟩ := bind_ h
 refine cl_ Try.func87 (by kernel_rfl) rfl rfl rfl rfl (go0 rfl) (argc (v := .agg #[.slice Au47_0 r47_1.length ku47_0]) rfl argn) ?_
 refine (spec_HarderPuzzle.calls k Au47_0 ku47_0 r47_1 _ _ _ (Cu47_0 _ (jB (jB bb48 bb49) bb50)) qu47_0 e51).mono ?_
 rintro e w51 ⟨u51_0, rfl, ou51_0, bb51⟩
 obtain ⟨Au51_0, ku51_0, xu51_0, qu51_0, Cu51_0⟩ := R3 ou51_0; subst xu51_0
 refine ⟨_, rfl, ?_⟩
 refine m0 (.tuple #[.agg #[.slice Au51_0 r51_1.length ku51_0], .bool r51_2]) rfl rfl rfl rfl rfl ?_
 refine x0 (.agg #[.slice Au51_0 r51_1.length ku51_0]) rfl rfl rfl rfl rfl rfl ?_
 refine x0 (.bool r51_2) rfl rfl rfl rfl rfl rfl ?_
 refine av_ (vs := #[.slice Au51_0 r51_1.length ku51_0]) rfl rfl rfl rfl rfl rfl rfl rfl L_.sz52 rfl (by simp [Value.oneCell']) rfl ?_
 intro g52_0 w52 hgg52_0 bb52
 have Gg52_0 := on_blk hgg52_0
 refine a0 (.bool r51_2) rfl rfl rfl rfl rfl ?_
 refine nilt ?_
 refine wp_seq ?_
 refine wp_region_lit ?_
 refine ld_ (v := .agg #[.slice Au47_0 r47_1.length ku47_0]) rfl rfl rfl (go0 rfl) rfl (load_g L_.st52 L_.sz1_52 (Gg48_0 _ (jB (jB (jB bb49 bb50) bb51) bb52))) ?_
 obtain ⟨⟨r53_1, r53_2⟩, e53, h⟩ := bind_ h
 refine cl_ Try.func88 (by kernel_rfl) rfl rfl rfl rfl (go0 rfl) (argc (v := .agg #[.slice Au47_0 r47_1.length ku47_0]) rfl argn) ?_
 refine (impl_IsSolved.calls k Au47_0 ku47_0 r47_1 _ _ _ (Cu47_0 _ (jB (jB (jB (jB bb48 bb49) bb50) bb51) bb52)) qu47_0 e53).mono ?_
 rintro e w53 ⟨rfl, bb53⟩
 refine ⟨_, rfl, ?_⟩
 refine m0 (.tuple #[.bool r53_1, .bool r53_2]) rfl rfl rfl rfl rfl ?_
 refine x0 (.bool r53_1) rfl rfl rfl rfl rfl rfl ?_
 refine x0 (.bool r53_2) rfl rfl rfl rfl rfl rfl ?_
 refine a0 (.bool r53_1) rfl rfl rfl rfl rfl ?_
 refine a0 (.bool r53_2) rfl rfl rfl rfl rfl ?_
 refine nilt ?_
 refine wp_seq ?_
 refine wp_seq ?_
 refine wp_region_lit ?_
 refine m0 (.bool r49_2) rfl rfl rfl rfl rfl ?_
 refine m0 (.bool r51_2) rfl rfl rfl rfl rfl ?_
 obtain ⟨c54, h⟩ := ifn h
 refine bb_ (v := .bool (false)) rfl rfl rfl rfl (go0 rfl) rfl rfl (b_neq L_.u4 c54) ?_
 refine m0 (.bool false) rfl rfl rfl rfl rfl ?_
 refine fa_ (v := .pointer (some ⟨g50_0, 0, none⟩)) rfl rfl rfl (go1 (j := 3) (t := 236) rfl (by kernel_rfl) rfl rfl) rfl (L_.fa52_0 g50_0) ?_
 refine ld_ (v := .slice Au49_0 r49_1.length ku49_0) rfl rfl rfl (go1 (j := 3) (t := 236) rfl (by kernel_rfl) rfl rfl) rfl (load_s L_.u50 ((cell_of_row _ _ 0 _ _ _ (Gg50_0 _ (jB (jB bb51 bb52) bb53))).trans rfl)) ?_
 refine fa_ (v := .pointer (some ⟨g52_0, 0, none⟩)) rfl rfl rfl (go1 (j := 3) (t := 236) rfl (by kernel_rfl) rfl rfl) rfl (L_.fa52_0 g52_0) ?_
 refine ld_ (v := .slice Au51_0 r51_1.length ku51_0) rfl rfl rfl (go1 (j := 3) (t := 236) rfl (by kernel_rfl) rfl rfl) rfl (load_s L_.u50 ((cell_of_row _ _ 0 _ _ _ (Gg52_0 _ bb53)).trans rfl)) ?_
 obtain ⟨r55_0, e55, h⟩ := bind_ h
 refine cl_ Try.func80 (by kernel_rfl) rfl rfl rfl rfl (go1 (j := 3) (t := 236) rfl (by kernel_rfl) rfl rfl) (argc (v := .slice Au49_0 r49_1.length ku49_0) rfl (argc (v := .slice Au51_0 r51_1.length ku51_0) rfl argn)) ?_
 refine (laws_jClues.calls k Au49_0 ku49_0 r49_1 Au51_0 ku51_0 r51_1 _ _ (Cu49_0 _ (jB (jB (jB bb50 bb51) bb52) bb53)) qu49_0 (Cu51_0 _ (jB bb52 bb53)) qu51_0 e55).mono ?_
 rintro e w55 ⟨rfl, d55⟩
 have bb55 := Drawn0.below d55
 refine ⟨_, rfl, ?_⟩
 obtain ⟨c56, h⟩ := ifn h
 refine nt_ (c := false) rfl rfl rfl (go1 (j := 3) (t := 236) rfl (by kernel_rfl) rfl rfl) rfl c56 ?_
 refine pk_ (b := false) (v := .bool false) rfl rfl rfl rfl rfl (go0 rfl) rfl rfl ?_
 refine m0 (.bool false) rfl rfl rfl rfl rfl ?_
 refine mv_ (v := .bool r49_2) rfl rfl rfl (go1 (j := 11) (t := 244) rfl (by kernel_rfl) rfl rfl) rfl ?_
 refine mv_ (v := .bool r53_2) rfl rfl rfl (go1 (j := 11) (t := 244) rfl (by kernel_rfl) rfl rfl) rfl ?_
 refine mv_ (v := .bool r53_2) rfl rfl rfl (go1 (j := 11) (t := 244) rfl (by kernel_rfl) rfl rfl) rfl ?_
 obtain ⟨d57, e57, h⟩ := bind_ h
 refine cut_ 2 (fun f g w' => Same 8 f g ∧ g 249 = .bool d57 ∧ g 28 = .pointer (some ⟨g48_0, 0, none⟩) ∧ g 29 = .pointer (some ⟨g50_0, 0, none⟩) ∧ g 30 = .bool r49_2 ∧ g 244 = .bool false ∧ g 245 = .bool r49_2 ∧ Below w55.heap.size w55 w') ?_ ?_
 · clear h; have h := e57; clear e57
   rcases ifs h with ⟨c58, h⟩ | ⟨c58, h⟩
   · refine mv_ (v := .bool r53_1) rfl rfl rfl (go1 (j := 14) (t := 247) rfl (by kernel_rfl) rfl (Eq.trans rfl (vb c58))) rfl ?_
     refine pk_ (b := true) (v := .bool r53_1) rfl rfl rfl rfl rfl (go1 (j := 11) (t := 244) rfl (by kernel_rfl) rfl rfl) (Eq.trans rfl (vb c58)) rfl ?_
     refine wpList_nil ?_
     exact then_n ⟨_, rfl, (Same.put (Same.put (Same.refl _ _) rfl) rfl), (Eq.trans rfl (vb (jM h))), rfl, rfl, rfl, rfl, rfl, (jU _ _)⟩
   refine skp (no1 (j := 14) (t := 247) rfl (by kernel_rfl) rfl (Eq.trans rfl (vb c58)) rfl) rfl ?_
   refine pk_ (b := false) (v := .bool false) rfl rfl rfl rfl rfl (go1 (j := 11) (t := 244) rfl (by kernel_rfl) rfl rfl) (Eq.trans rfl (vb c58)) rfl ?_
   refine wpList_nil ?_
   exact then_n ⟨_, rfl, (Same.put (Same.put (Same.refl _ _) rfl) rfl), (Eq.trans rfl (vb (jM h))), rfl, rfl, rfl, rfl, rfl, (jU _ _)⟩
 clear e57; rintro g57 w57 ⟨S57, x57_249, x57_28, x57_29, x57_30, x57_244, x57_245, bb57⟩
 obtain ⟨c59, h⟩ := ifn h
 refine bb_ (v := .bool (false)) rfl rfl rfl rfl (go1 (j := 11) (t := 244) rfl (by kernel_rfl) rfl x57_244) x57_245 x57_249 (b_neq L_.u4 c59) ?_
 refine pk_ (b := false) (v := .bool false) rfl rfl rfl rfl rfl (go0 rfl) x57_244 rfl ?_
 refine nilt ?_
 refine cF ?_ rfl rfl
 refine wp_skip ?_
 refine then_n ?_
 refine wp_seq ?_
 refine wp_seq ?_
 refine wp_region_lit ?_
 refine m0 (.bool r49_2) rfl rfl rfl rfl x57_30 ?_
 refine nilt ?_
 rcases ifs h with ⟨c60, h⟩ | ⟨c60, h⟩
 · refine cT ?_ (Eq.trans rfl (vb c60)) rfl
   refine wp_seq ?_
   refine wp_region_lit ?_
   refine ld_ (v := .agg #[.slice Au47_0 r47_1.length ku47_0]) rfl rfl rfl (go0 rfl) x57_28 (load_g L_.st52 L_.sz1_52 (Gg48_0 _ (jB (jB (jB (jB (jB (jB bb49 bb50) bb51) bb52) bb53) bb55) bb57))) ?_
   obtain ⟨⟨r61_1, r61_2⟩, e61, h⟩ := bind_ h
   refine cl_ Try.func89 (by kernel_rfl) rfl rfl rfl rfl (go0 rfl) (argc (v := .agg #[.slice Au47_0 r47_1.length ku47_0]) rfl argn) ?_
   refine (impl_Solutions.calls k Au47_0 ku47_0 r47_1 _ _ _ (Cu47_0 _ (jB (jB (jB (jB (jB (jB (jB bb48 bb49) bb50) bb51) bb52) bb53) bb55) bb57)) qu47_0 e61).mono ?_
   rintro e w61 ⟨u61_0, rfl, ou61_0, bb61⟩
   obtain ⟨Au61_0, ku61_0, xu61_0, qu61_0, Cu61_0⟩ := S3 ou61_0; subst xu61_0
   refine ⟨_, rfl, ?_⟩
   refine m0 (.tuple #[.slice Au61_0 r61_1.length ku61_0, .bool r61_2]) rfl rfl rfl rfl rfl ?_
   refine x0 (.slice Au61_0 r61_1.length ku61_0) rfl rfl rfl rfl rfl rfl ?_
   refine x0 (.bool r61_2) rfl rfl rfl rfl rfl rfl ?_
   refine a0 (.slice Au61_0 r61_1.length ku61_0) rfl rfl rfl rfl rfl ?_
   refine a0 (.bool r61_2) rfl rfl rfl rfl rfl ?_
   refine nilt ?_
   refine wp_seq ?_
   refine wp_region_lit ?_
   refine ld_ (v := .agg #[.slice Au49_0 r49_1.length ku49_0]) rfl rfl rfl (go0 rfl) x57_29 (load_g L_.st52 L_.sz1_52 (Gg50_0 _ (jB (jB (jB (jB (jB bb51 bb52) bb53) bb55) bb57) bb61))) ?_
   obtain ⟨⟨r62_1, r62_2⟩, e62, h⟩ := bind_ h
   refine cl_ Try.func89 (by kernel_rfl) rfl rfl rfl rfl (go0 rfl) (argc (v := .agg #[.slice Au49_0 r49_1.length ku49_0]) rfl argn) ?_
   refine (impl_Solutions.calls k Au49_0 ku49_0 r49_1 _ _ _ (Cu49_0 _ (jB (jB (jB (jB (jB (jB bb50 bb51) bb52) bb53) bb55) bb57) bb61)) qu49_0 e62).mono ?_
   rintro e w62 ⟨u62_0, rfl, ou62_0, bb62⟩
   obtain ⟨Au62_0, ku62_0, xu62_0, qu62_0, Cu62_0⟩ := S3 ou62_0; subst xu62_0
   refine ⟨_, rfl, ?_⟩
   refine m0 (.tuple #[.slice Au62_0 r62_1.length ku62_0, .bool r62_2]) rfl rfl rfl rfl rfl ?_
   refine x0 (.slice Au62_0 r62_1.length ku62_0) rfl rfl rfl rfl rfl rfl ?_
   refine x0 (.bool r62_2) rfl rfl rfl rfl rfl rfl ?_
   refine a0 (.slice Au62_0 r62_1.length ku62_0) rfl rfl rfl rfl rfl ?_
   refine a0 (.bool r62_2) rfl rfl rfl rfl rfl ?_
   refine nilt ?_
   refine wp_seq ?_
   refine wp_region_lit ?_
   refine ld_ (v := .agg #[.slice Au49_0 r49_1.length ku49_0]) rfl rfl rfl (go0 rfl) x57_29 (load_g L_.st52 L_.sz1_52 (Gg50_0 _ (jB (jB (jB (jB (jB (jB bb51 bb52) bb53) bb55) bb57) bb61) bb62))) ?_
   obtain ⟨⟨r63_1, r63_2⟩, e63, h⟩ := bind_ h
   refine cl_ Try.func90 (by kernel_rfl) rfl rfl rfl rfl (go0 rfl) (argc (v := .agg #[.slice Au49_0 r49_1.length ku49_0]) rfl argn) ?_
   refine (impl_NeedlessClues.calls k Au49_0 ku49_0 r49_1 _ _ _ (Cu49_0 _ (jB (jB (jB (jB (jB (jB (jB bb50 bb51) bb52) bb53) bb55) bb57) bb61) bb62)) qu49_0 e63).mono ?_
   rintro e w63 ⟨u63_0, rfl, ou63_0, bb63⟩
   obtain ⟨Au63_0, ku63_0, xu63_0, qu63_0, Cu63_0⟩ := R3 ou63_0; subst xu63_0
   refine ⟨_, rfl, ?_⟩
   refine m0 (.tuple #[.slice Au63_0 r63_1.length ku63_0, .bool r63_2]) rfl rfl rfl rfl rfl ?_
   refine x0 (.slice Au63_0 r63_1.length ku63_0) rfl rfl rfl rfl rfl rfl ?_
   refine x0 (.bool r63_2) rfl rfl rfl rfl rfl rfl ?_
   refine a0 (.slice Au63_0 r63_1.length ku63_0) rfl rfl rfl rfl rfl ?_
   refine a0 (.bool r63_2) rfl rfl rfl rfl rfl ?_
   refine nilt ?_
   refine wp_seq ?_
   refine wp_region_lit ?_
   obtain ⟨c64, h⟩ := ify h
   refine m0 (.bool true) rfl rfl rfl rfl (Eq.trans rfl (vb c64)) ?_
   refine nt_ (c := false) rfl rfl rfl (go0 rfl) rfl rfl ?_
   refine m0 (.bool false) rfl rfl rfl rfl rfl ?_
   obtain ⟨c65, h⟩ := ify h
   refine mv_ (v := .bool true) rfl rfl rfl (go1 (j := 2) (t := 270) rfl (by kernel_rfl) rfl rfl) (Eq.trans rfl (vb c65)) ?_
   refine nt_ (c := false) rfl rfl rfl (go1 (j := 2) (t := 270) rfl (by kernel_rfl) rfl rfl) rfl rfl ?_
   refine pk_ (b := false) (v := .bool false) rfl rfl rfl rfl rfl (go0 rfl) rfl rfl ?_
   refine m0 (.bool false) rfl rfl rfl rfl rfl ?_
   refine mv_ (v := .slice Au61_0 r61_1.length ku61_0) rfl rfl rfl (go1 (j := 6) (t := 274) rfl (by kernel_rfl) rfl rfl) rfl ?_
   refine mv_ (v := .slice Au62_0 r62_1.length ku62_0) rfl rfl rfl (go1 (j := 6) (t := 274) rfl (by kernel_rfl) rfl rfl) rfl ?_
   obtain ⟨r66_0, e66, h⟩ := bind_ h
   refine cl_ Try.func91 (by kernel_rfl) rfl rfl rfl rfl (go1 (j := 6) (t := 274) rfl (by kernel_rfl) rfl rfl) (argc (v := .slice Au61_0 r61_1.length ku61_0) rfl (argc (v := .slice Au62_0 r62_1.length ku62_0) rfl argn)) ?_
   refine (laws_jRows.calls k Au61_0 ku61_0 r61_1 Au62_0 ku62_0 r62_1 _ _ (Cu61_0 _ (jB bb62 bb63)) qu61_0 (Cu62_0 _ bb63) qu62_0 e66).mono ?_
   rintro e w66 ⟨rfl, d66⟩
   have bb66 := Drawn0.below d66
   refine ⟨_, rfl, ?_⟩
   obtain ⟨c67, h⟩ := ifn h
   refine nt_ (c := false) rfl rfl rfl (go1 (j := 6) (t := 274) rfl (by kernel_rfl) rfl rfl) rfl c67 ?_
   refine pk_ (b := false) (v := .bool false) rfl rfl rfl rfl rfl (go0 rfl) rfl rfl ?_
   refine m0 (.bool false) rfl rfl rfl rfl rfl ?_
   obtain ⟨c68, h⟩ := ify h
   refine mv_ (v := .bool true) rfl rfl rfl (go1 (j := 12) (t := 280) rfl (by kernel_rfl) rfl rfl) (Eq.trans rfl (vb c68)) ?_
   refine nt_ (c := false) rfl rfl rfl (go1 (j := 12) (t := 280) rfl (by kernel_rfl) rfl rfl) rfl rfl ?_
   refine pk_ (b := false) (v := .bool false) rfl rfl rfl rfl rfl (go0 rfl) rfl rfl ?_
   refine m0 (.bool false) rfl rfl rfl rfl rfl ?_
   refine mv_ (v := .slice Au63_0 r63_1.length ku63_0) rfl rfl rfl (go1 (j := 16) (t := 284) rfl (by kernel_rfl) rfl rfl) rfl ?_
   refine ln_ L_.u24 rfl rfl rfl (go1 (j := 16) (t := 284) rfl (by kernel_rfl) rfl rfl) rfl ?_
   obtain ⟨c69, h⟩ := ifn h
   refine bi_ (v := .bool (false)) rfl rfl rfl rfl (go1 (j := 16) (t := 284) rfl (by kernel_rfl) rfl rfl) rfl rfl (i_neq c69) ?_
   refine pk_ (b := false) (v := .bool false) rfl rfl rfl rfl rfl (go0 rfl) rfl rfl ?_
   refine m0 (.bool false) rfl rfl rfl rfl rfl ?_
   refine fa_ (v := .pointer (some ⟨g50_0, 0, none⟩)) rfl rfl rfl (go1 (j := 21) (t := 289) rfl (by kernel_rfl) rfl rfl) x57_29 (L_.fa52_0 g50_0) ?_
   refine ld_ (v := .slice Au49_0 r49_1.length ku49_0) rfl rfl rfl (go1 (j := 21) (t := 289) rfl (by kernel_rfl) rfl rfl) rfl (load_s L_.u50 ((cell_of_row _ _ 0 _ _ _ (Gg50_0 _ (jB (jB (jB (jB (jB (jB (jB (jB bb51 bb52) bb53) bb55) bb57) bb61) bb62) bb63) bb66))).trans rfl)) ?_
   refine ln_ L_.u50 rfl rfl rfl (go1 (j := 21) (t := 289) rfl (by kernel_rfl) rfl rfl) rfl ?_
   refine fa_ (v := .pointer (some ⟨g48_0, 0, none⟩)) rfl rfl rfl (go1 (j := 21) (t := 289) rfl (by kernel_rfl) rfl rfl) x57_28 (L_.fa52_0 g48_0) ?_
   refine ld_ (v := .slice Au47_0 r47_1.length ku47_0) rfl rfl rfl (go1 (j := 21) (t := 289) rfl (by kernel_rfl) rfl rfl) rfl (load_s L_.u50 ((cell_of_row _ _ 0 _ _ _ (Gg48_0 _ (jB (jB (jB (jB (jB (jB (jB (jB (jB (jB bb49 bb50) bb51) bb52) bb53) bb55) bb57) bb61) bb62) bb63) bb66))).trans rfl)) ?_
   refine ln_ L_.u50 rfl rfl rfl (go1 (j := 21) (t := 289) rfl (by kernel_rfl) rfl rfl) rfl ?_
   obtain ⟨c70, h⟩ := ifn h
   refine bi_ (v := .bool (false)) rfl rfl rfl rfl (go1 (j := 21) (t := 289) rfl (by kernel_rfl) rfl rfl) rfl rfl (i_gtr c70) ?_
   refine pk_ (b := false) (v := .bool false) rfl rfl rfl rfl rfl (go0 rfl) rfl rfl ?_
   refine nilt ?_
   refine cF ?_ rfl rfl
   refine wp_skip ?_
   refine then_n ?_
   exact L_.w71 k r ws _ _ A1 k1 l1 (Eq.trans (S57 1 rfl) h1) q1 (On.adv C1 (jB (jB (jB (jB (jB (jB (jB (jB (jB (jB (jB (jB bb47 bb48) bb49) bb50) bb51) bb52) bb53) bb55) bb57) bb61) bb62) bb63) bb66)) (jB B0 (jB (jB (jB (jB (jB (jB (jB (jB (jB (jB (jB (jB bb47 bb48) bb49) bb50) bb51) bb52) bb53) bb55) bb57) bb61) bb62) bb63) bb66)) h
 refine cF ?_ (Eq.trans rfl (vb c60)) rfl
 refine wp_skip ?_
 refine then_n ?_
 exact L_.w71 k r ws _ _ A1 k1 l1 (Eq.trans (S57 1 rfl) h1) q1 (On.adv C1 (jB (jB (jB (jB (jB (jB (jB (jB bb47 bb48) bb49) bb50) bb51) bb52) bb53) bb55) bb57)) (jB B0 (jB (jB (jB (jB (jB (jB (jB (jB bb47 bb48) bb49) bb50) bb51) bb52) bb53) bb55) bb57)) h
def laws_FnPiecesHidden.l37 (k : Nat) : Nat → List Int → List Int → List S58 → Int → Int → Option Bool
 | 0, _, _, _, _, _ => none
 | n + 1, l1, l5, l197, a198, a199 => if (decide (a199 < a198)) = true then (if (decide (0 ≤ a199) && decide (a199 < (l197.length : Int))) = true then ((impl_DoesFit.f k ((rd_T58 l197 a199).f0) ((rd_T58 l197 a199).f1) ((rd_T58 l197 a199).f2) l5).bind fun t42 => if t42.2 = true then (if t42.1 = true then (laws_FnPiecesHidden.p45 k (laws_FnPiecesHidden.l37 k n) l1 l5 l197 a198 a199) else none) else none) else none) else (laws_FnPiecesHidden.p46 k l1)
theorem L_.w37 (k : Nat) (r : Bool) (ws : World) : ∀ (n : Nat), ∀ (f0 : Nat → Value) (w0 : World) (A1 : Option Addr) (k1 : Nat) (l1 : List Int) (h1 : f0 1 = .slice A1 l1.length k1) (q1 : l1.length ≤ k1) (C1 : On w0 fun x => Kd.C (Kd.int .u8) x A1 l1.length l1) (A5 : Option Addr) (k5 : Nat) (l5 : List Int) (h5 : f0 5 = .slice A5 l5.length k5) (q5 : l5.length ≤ k5) (C5 : On w0 fun x => Kd.C (Kd.int .i64) x A5 l5.length l5) (A197 : Option Addr) (k197 : Nat) (l197 : List S58) (h197 : f0 197 = .slice A197 l197.length k197) (q197 : l197.length ≤ k197) (C197 : On w0 fun x => Kd.C (k58) x A197 l197.length l197) (a198 : Int) (h198 : f0 198 = .int .i64 a198) (a199 : Int) (h199 : f0 199 = .int .i64 a199) (B0 : Below ws.heap.size ws w0) (h : laws_FnPiecesHidden.l37 k n l1 l5 l197 a198 a199 = some r), AtHead Try.prog (lb (bl (srn 8 (ct (srn 1 (sl (srn 6 L_.B))))))) (L_.Q2 ws r) (fr 457 f0) w0 := by
 intro n
 induction n with
 | zero => intro f0 w0 A1 k1 l1 h1 q1 C1 A5 k5 l5 h5 q5 C5 A197 k197 l197 h197 q197 C197 a198 h198 a199 h199 B0 h; rw [laws_FnPiecesHidden.l37] at h; cases h
 | succ n ih37 =>
  intro f0 w0 A1 k1 l1 h1 q1 C1 A5 k5 l5 h5 q5 C5 A197 k197 l197 h197 q197 C197 a198 h198 a199 h199 B0 h
  rw [laws_FnPiecesHidden.l37] at h
  refine head_round ?_
  refine wp_seq ?_
  refine wp_region_lit ?_
  refine bi_ (v := .bool (decide (a199 < a198))) rfl rfl rfl rfl (go0 rfl) h199 h198 (i_lss rfl) ?_
  refine nilt ?_
  refine wp_seq ?_
  rcases ifs h with ⟨c38, h⟩ | ⟨c38, h⟩
  · refine cT ?_ (Eq.trans rfl (vb c38)) rfl
    refine wp_skip ?_
    refine then_n ?_
    refine wp_seq ?_
    refine wp_block ?_
    refine wp_seq ?_
    refine wp_region_lit ?_
    obtain ⟨c39, h⟩ := ify h
    replace c39 := bnd c39
    obtain ⟨ad40, ead40, xad40⟩ := at_on z58 (fun x_ => [.int .i64 x_.f0, .int .i64 x_.f1, .int .i64 x_.f2]) k58_open C197 a199 c39.1 (by have := c39.2; omega)
    refine ixn_ (q := a199) L_.u50 L_.zn50 rfl rfl rfl rfl (go0 rfl) h197 h199 ead40 c39 ?_
    refine ld_ (v := .agg #[.int .i64 ((rd_T58 l197 a199).f0), .int .i64 ((rd_T58 l197 a199).f1), .int .i64 ((rd_T58 l197 a199).f2)]) rfl rfl rfl (go0 rfl) rfl (load_e L_.st58 L_.sz1_58 (xad40 _ (jU _ _))) ?_
    refine av_ (vs := #[.int .i64 ((rd_T58 l197 a199).f0), .int .i64 ((rd_T58 l197 a199).f1), .int .i64 ((rd_T58 l197 a199).f2)]) rfl rfl rfl rfl rfl rfl rfl rfl L_.sz58 rfl (by simp [Value.oneCell']) rfl ?_
    intro g41_0 w41 hgg41_0 bb41
    have Gg41_0 := on_blk hgg41_0
    refine nilt ?_
    refine wp_seq ?_
    refine wp_region_lit ?_
    refine ld_ (v := .agg #[.int .i64 ((rd_T58 l197 a199).f0), .int .i64 ((rd_T58 l197 a199).f1), .int .i64 ((rd_T58 l197 a199).f2)]) rfl rfl rfl (go0 rfl) rfl (load_g L_.st58 L_.sz1_58 (Gg41_0 _ (jU _ _))) ?_
    refine m0 (.slice A5 l5.length k5) rfl rfl rfl rfl h5 ?_
    obtain ⟨⟨r42_1, r42_2⟩, e42, h⟩ := bind_ h
    refine cl_ Try.func83 (by kernel_rfl) rfl rfl rfl rfl (go0 rfl) (argc (v := .agg #[.int .i64 ((rd_T58 l197 a199).f0), .int .i64 ((rd_T58 l197 a199).f1), .int .i64 ((rd_T58 l197 a199).f2)]) rfl (argc (v := .slice A5 l5.length k5) rfl argn)) ?_
    refine (impl_DoesFit.calls k ((rd_T58 l197 a199).f0) ((rd_T58 l197 a199).f1) ((rd_T58 l197 a199).f2) A5 k5 l5 _ _ _ (C5 _ bb41) q5 e42).mono ?_
    rintro e w42 ⟨rfl, bb42⟩
    refine ⟨_, rfl, ?_⟩
    refine m0 (.tuple #[.bool r42_1, .bool r42_2]) rfl rfl rfl rfl rfl ?_
    refine x0 (.bool r42_1) rfl rfl rfl rfl rfl rfl ?_
    refine x0 (.bool r42_2) rfl rfl rfl rfl rfl rfl ?_
    refine a0 (.bool r42_1) rfl rfl rfl rfl rfl ?_
    refine a0 (.bool r42_2) rfl rfl rfl rfl rfl ?_
    refine nilt ?_
    refine wp_seq ?_
    refine wp_region_lit ?_
    obtain ⟨c43, h⟩ := ify h
    refine m0 (.bool true) rfl rfl rfl rfl (Eq.trans rfl (vb c43)) ?_
    refine nt_ (c := false) rfl rfl rfl (go0 rfl) rfl rfl ?_
    refine m0 (.bool false) rfl rfl rfl rfl rfl ?_
    obtain ⟨c44, h⟩ := ify h
    refine mv_ (v := .bool true) rfl rfl rfl (go1 (j := 2) (t := 211) rfl (by kernel_rfl) rfl rfl) (Eq.trans rfl (vb c44)) ?_
    refine nt_ (c := false) rfl rfl rfl (go1 (j := 2) (t := 211) rfl (by kernel_rfl) rfl rfl) rfl rfl ?_
    refine pk_ (b := false) (v := .bool false) rfl rfl rfl rfl rfl (go0 rfl) rfl rfl ?_
    refine nilt ?_
    refine cF ?_ rfl rfl
    refine wp_skip ?_
    refine blk_n ?_
    refine then_n ?_
    exact L_.w45 k r ws (laws_FnPiecesHidden.l37 k n) ih37 _ _ A1 k1 l1 h1 q1 (On.adv C1 (jB bb41 bb42)) A5 k5 l5 h5 q5 (On.adv C5 (jB bb41 bb42)) A197 k197 l197 h197 q197 (On.adv C197 (jB bb41 bb42)) a198 h198 a199 h199 (jB B0 (jB bb41 bb42)) h
  refine cF ?_ (Eq.trans rfl (vb c38)) rfl
  refine wp_exit ?_
  refine then_x ?_
  refine then_x ?_
  refine blk_x ?_
  refine then_n ?_
  exact L_.w46 k r ws _ _ A1 k1 l1 h1 q1 C1 B0 h
def laws_FnPiecesHidden.p1 (k : Nat) (l0 : List Int) (l1 : List Int) : Option Bool := (laws_big.f l0 l1).bind fun r2_0 => if r2_0 = true then (some true) else ((spec_DrawMakePuzzle.f k l0).bind fun t4 => (impl_MakePuzzle.f k t4.1 t4.2.1 t4.2.2).bind fun t5 => (spec_MakePuzzle.f k t4.1 t4.2.1 t4.2.2).bind fun t7 => if (t5.2 != t7.2) = true then none else (laws_jClues.f k t5.1 t7.1).bind fun r10_0 => if (!r10_0) = true then none else (impl_IsHidden.f k t4.1).bind fun r12_0 => (spec_IsHidden.f k t4.1).bind fun r13_0 => if (r12_0 != r13_0) = true then none else (if t5.2 = true then ((impl_IsHidden.f k t4.1).bind fun r17_0 => some (!r17_0)) else (some false)).bind fun d15 => if d15 = true then none else if t5.2 = true then ((impl_SumOfPieces.f k t4.1).bind fun t19 => (impl_RunOf.f k t4.1).bind fun t20 => (impl_WaysOf.f k t4.1 5).bind fun t21 => (impl_DoesFit.f k 1 t19.1 0 t4.1).bind fun t22 => (impl_DoesFit.f k 3 t20.1 0 t4.1).bind fun t23 => (impl_DoesFit.f k 4 5 t21.1 t4.1).bind fun t24 => (impl_IsPuzzle.f k t5.1).bind fun r25_0 => if (!r25_0) = true then none else if ((t5.1.length : Int) != t4.2.1) = true then none else if t19.2 = true then (if t20.2 = true then (if t21.2 = true then (if t22.2 = true then (if t22.1 = true then (if t23.2 = true then (if t23.1 = true then (if t24.2 = true then (if t24.1 = true then (laws_FnPiecesHidden.l37 k k l1 t4.1 t5.1 (t5.1.length : Int) 0) else none) else none) else none) else none) else none) else none) else none) else none) else none) else (laws_FnPiecesHidden.p46 k l1))
theorem L_.w1 (k : Nat) (r : Bool) (ws : World) (f0 : Nat → Value) (w0 : World) (A0 : Option Addr) (k0 : Nat) (l0 : List Int) (h0 : f0 0 = .slice A0 l0.length k0) (q0 : l0.length ≤ k0) (C0 : On w0 fun x => Kd.C (Kd.int .u8) x A0 l0.length l0) (A1 : Option Addr) (k1 : Nat) (l1 : List Int) (h1 : f0 1 = .slice A1 l1.length k1) (q1 : l1.length ≤ k1) (C1 : On w0 fun x => Kd.C (Kd.int .u8) x A1 l1.length l1) (B0 : Below ws.heap.size ws w0) (h : laws_FnPiecesHidden.p1 k l0 l1 = some r) : Code.wp Try.prog L_.B (L_.Q0 ws r) (fr 457 f0) w0 := by
 unfold laws_FnPiecesHidden.p1 at h
 refine wp_seq ?_
 refine wp_region_lit ?_
 refine a0 (.bool false) rfl rfl rfl rfl rfl ?_
 refine nilt ?_
 refine wp_seq ?_
 refine wp_seq ?_
 refine wp_region_lit ?_
 refine m0 (.slice A0 l0.length k0) rfl rfl rfl rfl h0 ?_
 refine m0 (.slice A1 l1.length k1) rfl rfl rfl rfl h1 ?_
 obtain ⟨r2_0, e2, h⟩ := bind_ h
 refine cl_ Try.func10 (by kernel_rfl) rfl rfl rfl rfl (go0 rfl) (argc (v := .slice A0 l0.length k0) rfl (argc (v := .slice A1 l1.length k1) rfl argn)) ?_
 refine (laws_big.calls A0 k0 l0 A1 k1 l1 _ _ (C0 _ (jU _ _)) q0 (C1 _ (jU _ _)) q1 e2).mono ?_
 rintro e w2 ⟨rfl, d2⟩
 have bb2 := Drawn0.below d2
 refine ⟨_, rfl, ?_⟩
 refine nilt ?_
 rcases ifs h with ⟨c3, h⟩ | ⟨c3, h⟩
 · refine cT ?_ (Eq.trans rfl (vb c3)) rfl
   refine wp_seq ?_
   refine wp_region_lit ?_
   refine a0 (.bool true) rfl rfl rfl rfl rfl ?_
   refine nilt ?_
   refine wp_ret ?_
   refine then_r ?_
   exact leave rfl rfl rfl ⟨rb (jM h), (jB B0 bb2)⟩
 refine cF ?_ (Eq.trans rfl (vb c3)) rfl
 refine wp_skip ?_
 refine then_n ?_
 refine wp_seq ?_
 refine wp_region_lit ?_
 refine m0 (.slice A0 l0.length k0) rfl rfl rfl rfl h0 ?_
 obtain ⟨⟨r4_1, r4_2, r4_3⟩, e4, h⟩ := bind_ h
 refine cl_ Try.func77 (by kernel_rfl) rfl rfl rfl rfl (go0 rfl) (argc (v := .slice A0 l0.length k0) rfl argn) ?_
 refine (spec_DrawMakePuzzle.calls k A0 k0 l0 _ _ _ _ (C0 _ bb2) q0 e4).mono ?_
 rintro e w4 ⟨u4_0, rfl, ou4_0, bb4⟩
 obtain ⟨Au4_0, ku4_0, xu4_0, qu4_0, Cu4_0⟩ := R3 ou4_0; subst xu4_0
 refine ⟨_, rfl, ?_⟩
 refine m0 (.tuple #[.slice Au4_0 r4_1.length ku4_0, .int .i64 r4_2, .int .i64 r4_3]) rfl rfl rfl rfl rfl ?_
 refine x0 (.slice Au4_0 r4_1.length ku4_0) rfl rfl rfl rfl rfl rfl ?_
 refine x0 (.int .i64 r4_2) rfl rfl rfl rfl rfl rfl ?_
 refine x0 (.int .i64 r4_3) rfl rfl rfl rfl rfl rfl ?_
 refine a0 (.slice Au4_0 r4_1.length ku4_0) rfl rfl rfl rfl rfl ?_
 refine a0 (.int .i64 r4_2) rfl rfl rfl rfl rfl ?_
 refine a0 (.int .i64 r4_3) rfl rfl rfl rfl rfl ?_
 refine nilt ?_
 refine wp_seq ?_
 refine wp_region_lit ?_
 refine m0 (.slice Au4_0 r4_1.length ku4_0) rfl rfl rfl rfl rfl ?_
 refine m0 (.int .i64 r4_2) rfl rfl rfl rfl rfl ?_
 refine m0 (.int .i64 r4_3) rfl rfl rfl rfl rfl ?_
 obtain ⟨⟨r5_1, r5_2⟩, e5, h⟩ := bind_ h
 refine cl_ Try.func78 (by kernel_rfl) rfl rfl rfl rfl (go0 rfl) (argc (v := .slice Au4_0 r4_1.length ku4_0) rfl (argc (v := .int .i64 r4_2) rfl (argc (v := .int .i64 r4_3) rfl argn))) ?_
 refine (impl_MakePuzzle.calls k Au4_0 ku4_0 r4_1 r4_2 r4_3 _ _ _ (Cu4_0 _ (jU _ _)) qu4_0 e5).mono ?_
 rintro e w5 ⟨u5_0, rfl, ou5_0, bb5⟩
 obtain ⟨Au5_0, ku5_0, xu5_0, qu5_0, Cu5_0⟩ := R3 ou5_0; subst xu5_0
 refine ⟨_, rfl, ?_⟩
 refine m0 (.tuple #[.agg #[.slice Au5_0 r5_1.length ku5_0], .bool r5_2]) rfl rfl rfl rfl rfl ?_
 refine x0 (.agg #[.slice Au5_0 r5_1.length ku5_0]) rfl rfl rfl rfl rfl rfl ?_
 refine x0 (.bool r5_2) rfl rfl rfl rfl rfl rfl ?_
 refine av_ (vs := #[.slice Au5_0 r5_1.length ku5_0]) rfl rfl rfl rfl rfl rfl rfl rfl L_.sz52 rfl (by simp [Value.oneCell']) rfl ?_
 intro g6_0 w6 hgg6_0 bb6
 have Gg6_0 := on_blk hgg6_0
 refine a0 (.bool r5_2) rfl rfl rfl rfl rfl ?_
 refine nilt ?_
 refine wp_seq ?_
 refine wp_region_lit ?_
 refine m0 (.slice Au4_0 r4_1.length ku4_0) rfl rfl rfl rfl rfl ?_
 refine m0 (.int .i64 r4_2) rfl rfl rfl rfl rfl ?_
 refine m0 (.int .i64 r4_3) rfl rfl rfl rfl rfl ?_
 obtain ⟨⟨r7_1, r7_2⟩, e7, h⟩ := bind_ h
 refine cl_ Try.func79 (by kernel_rfl) rfl rfl rfl rfl (go0 rfl) (argc (v := .slice Au4_0 r4_1.length ku4_0) rfl (argc (v := .int .i64 r4_2) rfl (argc (v := .int .i64 r4_3) rfl argn))) ?_
 refine (spec_MakePuzzle.calls k Au4_0 ku4_0 r4_1 r4_2 r4_3 _ _ _ (Cu4_0 _ (jB bb5 bb6)) qu4_0 e7).mono ?_
 rintro e w7 ⟨u7_0, rfl, ou7_0, bb7⟩
 obtain ⟨Au7_0, ku7_0, xu7_0, qu7_0, Cu7_0⟩ := R3 ou7_0; subst xu7_0
 refine ⟨_, rfl, ?_⟩
 refine m0 (.tuple #[.agg #[.slice Au7_0 r7_1.length ku7_0], .bool r7_2]) rfl rfl rfl rfl rfl ?_
 refine x0 (.agg #[.slice Au7_0 r7_1.length ku7_0]) rfl rfl rfl rfl rfl rfl ?_
 refine x0 (.bool r7_2) rfl rfl rfl rfl rfl rfl ?_
 refine av_ (vs := #[.slice Au7_0 r7_1.length ku7_0]) rfl rfl rfl rfl rfl rfl rfl rfl L_.sz52 rfl (by simp [Value.oneCell']) rfl ?_
 intro g8_0 w8 hgg8_0 bb8
 have Gg8_0 := on_blk hgg8_0
 refine a0 (.bool r7_2) rfl rfl rfl rfl rfl ?_
 refine nilt ?_
 refine wp_seq ?_
 refine wp_seq ?_
 refine wp_region_lit ?_
 refine m0 (.bool r5_2) rfl rfl rfl rfl rfl ?_
 refine m0 (.bool r7_2) rfl rfl rfl rfl rfl ?_
 obtain ⟨c9, h⟩ := ifn h
 refine bb_ (v := .bool (false)) rfl rfl rfl rfl (go0 rfl) rfl rfl (b_neq L_.u4 c9) ?_
 refine m0 (.bool false) rfl rfl rfl rfl rfl ?_
 refine fa_ (v := .pointer (some ⟨g6_0, 0, none⟩)) rfl rfl rfl (go1 (j := 3) (t := 90) rfl (by kernel_rfl) rfl rfl) rfl (L_.fa52_0 g6_0) ?_
 refine ld_ (v := .slice Au5_0 r5_1.length ku5_0) rfl rfl rfl (go1 (j := 3) (t := 90) rfl (by kernel_rfl) rfl rfl) rfl (load_s L_.u50 ((cell_of_row _ _ 0 _ _ _ (Gg6_0 _ (jB bb7 bb8))).trans rfl)) ?_
 refine fa_ (v := .pointer (some ⟨g8_0, 0, none⟩)) rfl rfl rfl (go1 (j := 3) (t := 90) rfl (by kernel_rfl) rfl rfl) rfl (L_.fa52_0 g8_0) ?_
 refine ld_ (v := .slice Au7_0 r7_1.length ku7_0) rfl rfl rfl (go1 (j := 3) (t := 90) rfl (by kernel_rfl) rfl rfl) rfl (load_s L_.u50 ((cell_of_row _ _ 0 _ _ _ (Gg8_0 _ (jU _ _))).trans rfl)) ?_
 obtain ⟨r10_0, e10, h⟩ := bind_ h
 refine cl_ Try.func80 (by kernel_rfl) rfl rfl rfl rfl (go1 (j := 3) (t := 90) rfl (by kernel_rfl) rfl rfl) (argc (v := .slice Au5_0 r5_1.length ku5_0) rfl (argc (v := .slice Au7_0 r7_1.length ku7_0) rfl argn)) ?_
 refine (laws_jClues.calls k Au5_0 ku5_0 r5_1 Au7_0 ku7_0 r7_1 _ _ (Cu5_0 _ (jB (jB bb6 bb7) bb8)) qu5_0 (Cu7_0 _ bb8) qu7_0 e10).mono ?_
 rintro e w10 ⟨rfl, d10⟩
 have bb10 := Drawn0.below d10
 refine ⟨_, rfl, ?_⟩
 obtain ⟨c11, h⟩ := ifn h
 refine nt_ (c := false) rfl rfl rfl (go1 (j := 3) (t := 90) rfl (by kernel_rfl) rfl rfl) rfl c11 ?_
 refine pk_ (b := false) (v := .bool false) rfl rfl rfl rfl rfl (go0 rfl) rfl rfl ?_
 refine m0 (.bool false) rfl rfl rfl rfl rfl ?_
 refine mv_ (v := .slice Au4_0 r4_1.length ku4_0) rfl rfl rfl (go1 (j := 11) (t := 98) rfl (by kernel_rfl) rfl rfl) rfl ?_
 obtain ⟨r12_0, e12, h⟩ := bind_ h
 refine cl_ Try.func81 (by kernel_rfl) rfl rfl rfl rfl (go1 (j := 11) (t := 98) rfl (by kernel_rfl) rfl rfl) (argc (v := .slice Au4_0 r4_1.length ku4_0) rfl argn) ?_
 refine (impl_IsHidden.calls k Au4_0 ku4_0 r4_1 _ _ (Cu4_0 _ (jB (jB (jB (jB bb5 bb6) bb7) bb8) bb10)) qu4_0 e12).mono ?_
 rintro e w12 ⟨rfl, bb12⟩
 refine ⟨_, rfl, ?_⟩
 refine mv_ (v := .slice Au4_0 r4_1.length ku4_0) rfl rfl rfl (go1 (j := 11) (t := 98) rfl (by kernel_rfl) rfl rfl) rfl ?_
 obtain ⟨r13_0, e13, h⟩ := bind_ h
 refine cl_ Try.func82 (by kernel_rfl) rfl rfl rfl rfl (go1 (j := 11) (t := 98) rfl (by kernel_rfl) rfl rfl) (argc (v := .slice Au4_0 r4_1.length ku4_0) rfl argn) ?_
 refine (spec_IsHidden.calls k Au4_0 ku4_0 r4_1 _ _ (Cu4_0 _ (jB (jB (jB (jB (jB bb5 bb6) bb7) bb8) bb10) bb12)) qu4_0 e13).mono ?_
 rintro e w13 ⟨rfl, d13⟩
 have bb13 := Drawn0.below d13
 refine ⟨_, rfl, ?_⟩
 obtain ⟨c14, h⟩ := ifn h
 refine bb_ (v := .bool (false)) rfl rfl rfl rfl (go1 (j := 11) (t := 98) rfl (by kernel_rfl) rfl rfl) rfl rfl (b_neq L_.u4 c14) ?_
 refine pk_ (b := false) (v := .bool false) rfl rfl rfl rfl rfl (go0 rfl) rfl rfl ?_
 refine m0 (.bool false) rfl rfl rfl rfl rfl ?_
 refine mv_ (v := .bool r5_2) rfl rfl rfl (go1 (j := 18) (t := 105) rfl (by kernel_rfl) rfl rfl) rfl ?_
 refine mv_ (v := .bool r5_2) rfl rfl rfl (go1 (j := 18) (t := 105) rfl (by kernel_rfl) rfl rfl) rfl ?_
 obtain ⟨d15, e15, h⟩ := bind_ h
 replace h := ifn h
 obtain ⟨y15, h⟩ := h
 subst y15
 refine cut_ 4 (fun f g w' => Same 8 f g ∧ g 111 = .bool false ∧ g 8 = .pointer (some ⟨g6_0, 0, none⟩) ∧ g 9 = .bool r5_2 ∧ g 105 = .bool false ∧ Below w13.heap.size w13 w') ?_ ?_
 · clear h; have h := e15; clear e15
   rcases ifs h with ⟨c16, h⟩ | ⟨c16, h⟩
   · refine mv_ (v := .slice Au4_0 r4_1.length ku4_0) rfl rfl rfl (go1 (j := 20) (t := 107) rfl (by kernel_rfl) rfl (Eq.trans rfl (vb c16))) rfl ?_
     obtain ⟨r17_0, e17, h⟩ := bind_ h
     refine cl_ Try.func81 (by kernel_rfl) rfl rfl rfl rfl (go1 (j := 20) (t := 107) rfl (by kernel_rfl) rfl (Eq.trans rfl (vb c16))) (argc (v := .slice Au4_0 r4_1.length ku4_0) rfl argn) ?_
     refine (impl_IsHidden.calls k Au4_0 ku4_0 r4_1 _ _ (Cu4_0 _ (jB (jB (jB (jB (jB (jB bb5 bb6) bb7) bb8) bb10) bb12) bb13)) qu4_0 e17).mono ?_
     rintro e w17 ⟨rfl, bb17⟩
     refine ⟨_, rfl, ?_⟩
     refine nt_ (c := !r17_0) rfl rfl rfl (go1 (j := 20) (t := 107) rfl (by kernel_rfl) rfl (Eq.trans rfl (vb c16))) rfl rfl ?_
     refine pk_ (b := true) (v := .bool (!r17_0)) rfl rfl rfl rfl rfl (go1 (j := 18) (t := 105) rfl (by kernel_rfl) rfl rfl) (Eq.trans rfl (vb c16)) rfl ?_
     refine wpList_nil ?_
     exact then_n ⟨_, rfl, (Same.put (Same.put (Same.put (Same.put (Same.refl _ _) rfl) rfl) rfl) rfl), (Eq.trans rfl (vb (jM h))), rfl, rfl, rfl, bb17⟩
   refine skp (no1 (j := 20) (t := 107) rfl (by kernel_rfl) rfl (Eq.trans rfl (vb c16)) rfl) rfl ?_
   refine skp (no1 (j := 20) (t := 107) rfl (by kernel_rfl) rfl (Eq.trans rfl (vb c16)) rfl) rfl ?_
   refine skp (no1 (j := 20) (t := 107) rfl (by kernel_rfl) rfl (Eq.trans rfl (vb c16)) rfl) rfl ?_
   refine pk_ (b := false) (v := .bool false) rfl rfl rfl rfl rfl (go1 (j := 18) (t := 105) rfl (by kernel_rfl) rfl rfl) (Eq.trans rfl (vb c16)) rfl ?_
   refine wpList_nil ?_
   exact then_n ⟨_, rfl, (Same.put (Same.put (Same.put (Same.put (Same.refl _ _) rfl) rfl) rfl) rfl), (Eq.trans rfl (vb (jM h))), rfl, rfl, rfl, (jU _ _)⟩
 clear e15; rintro g15 w15 ⟨S15, x15_111, x15_8, x15_9, x15_105, bb15⟩
 refine pk_ (b := false) (v := .bool false) rfl rfl rfl rfl rfl (go0 rfl) x15_105 x15_111 ?_
 refine nilt ?_
 refine cF ?_ rfl rfl
 refine wp_skip ?_
 refine then_n ?_
 refine wp_seq ?_
 refine wp_seq ?_
 refine wp_region_lit ?_
 refine m0 (.bool r5_2) rfl rfl rfl rfl x15_9 ?_
 refine nilt ?_
 rcases ifs h with ⟨c18, h⟩ | ⟨c18, h⟩
 · refine cT ?_ (Eq.trans rfl (vb c18)) rfl
   refine wp_seq ?_
   refine wp_region_lit ?_
   refine m0 (.slice Au4_0 r4_1.length ku4_0) rfl rfl rfl rfl (Eq.trans (S15 5 rfl) rfl) ?_
   obtain ⟨⟨r19_1, r19_2⟩, e19, h⟩ := bind_ h
   refine cl_ Try.func59 (by kernel_rfl) rfl rfl rfl rfl (go0 rfl) (argc (v := .slice Au4_0 r4_1.length ku4_0) rfl argn) ?_
   refine (impl_SumOfPieces.calls k Au4_0 ku4_0 r4_1 _ _ _ (Cu4_0 _ (jB (jB (jB (jB (jB (jB (jB bb5 bb6) bb7) bb8) bb10) bb12) bb13) bb15)) qu4_0 e19).mono ?_
   rintro e w19 ⟨rfl, bb19⟩
   refine ⟨_, rfl, ?_⟩
   refine m0 (.tuple #[.int .i64 r19_1, .bool r19_2]) rfl rfl rfl rfl rfl ?_
   refine x0 (.int .i64 r19_1) rfl rfl rfl rfl rfl rfl ?_
   refine x0 (.bool r19_2) rfl rfl rfl rfl rfl rfl ?_
   refine a0 (.int .i64 r19_1) rfl rfl rfl rfl rfl ?_
   refine a0 (.bool r19_2) rfl rfl rfl rfl rfl ?_
   refine nilt ?_
   refine wp_seq ?_
   refine wp_region_lit ?_
   refine m0 (.slice Au4_0 r4_1.length ku4_0) rfl rfl rfl rfl (Eq.trans (S15 5 rfl) rfl) ?_
   obtain ⟨⟨r20_1, r20_2⟩, e20, h⟩ := bind_ h
   refine cl_ Try.func55 (by kernel_rfl) rfl rfl rfl rfl (go0 rfl) (argc (v := .slice Au4_0 r4_1.length ku4_0) rfl argn) ?_
   refine (impl_RunOf.calls k Au4_0 ku4_0 r4_1 _ _ _ (Cu4_0 _ (jB (jB (jB (jB (jB (jB (jB (jB bb5 bb6) bb7) bb8) bb10) bb12) bb13) bb15) bb19)) qu4_0 e20).mono ?_
   rintro e w20 ⟨rfl, bb20⟩
   refine ⟨_, rfl, ?_⟩
   refine m0 (.tuple #[.int .i64 r20_1, .bool r20_2]) rfl rfl rfl rfl rfl ?_
   refine x0 (.int .i64 r20_1) rfl rfl rfl rfl rfl rfl ?_
   refine x0 (.bool r20_2) rfl rfl rfl rfl rfl rfl ?_
   refine a0 (.int .i64 r20_1) rfl rfl rfl rfl rfl ?_
   refine a0 (.bool r20_2) rfl rfl rfl rfl rfl ?_
   refine nilt ?_
   refine wp_seq ?_
   refine wp_region_lit ?_
   refine m0 (.slice Au4_0 r4_1.length ku4_0) rfl rfl rfl rfl (Eq.trans (S15 5 rfl) rfl) ?_
   obtain ⟨⟨r21_1, r21_2⟩, e21, h⟩ := bind_ h
   refine cl_ Try.func71 (by kernel_rfl) rfl rfl rfl rfl (go0 rfl) (argc (v := .slice Au4_0 r4_1.length ku4_0) rfl (argc (v := .int .i64 5) rfl argn)) ?_
   refine (impl_WaysOf.calls k Au4_0 ku4_0 r4_1 5 _ _ _ (Cu4_0 _ (jB (jB (jB (jB (jB (jB (jB (jB (jB bb5 bb6) bb7) bb8) bb10) bb12) bb13) bb15) bb19) bb20)) qu4_0 e21).mono ?_
   rintro e w21 ⟨rfl, bb21⟩
   refine ⟨_, rfl, ?_⟩
   refine m0 (.tuple #[.int .i64 r21_1, .bool r21_2]) rfl rfl rfl rfl rfl ?_
   refine x0 (.int .i64 r21_1) rfl rfl rfl rfl rfl rfl ?_
   refine x0 (.bool r21_2) rfl rfl rfl rfl rfl rfl ?_
   refine a0 (.int .i64 r21_1) rfl rfl rfl rfl rfl ?_
   refine a0 (.bool r21_2) rfl rfl rfl rfl rfl ?_
   refine nilt ?_
   refine wp_seq ?_
   refine wp_region_lit ?_
   refine m0 (.int .i64 r19_1) rfl rfl rfl rfl rfl ?_
   refine vr_ (go0 rfl) rfl (run_bd (vals := #[(0, .int .i64 1), (1, .int .i64 r19_1)]) rfl rfl (by simp [ev0, upd, upd]) (L_.bd58_0_1 1 r19_1)) ?_
   refine m0 (.slice Au4_0 r4_1.length ku4_0) rfl rfl rfl rfl (Eq.trans (S15 5 rfl) rfl) ?_
   obtain ⟨⟨r22_1, r22_2⟩, e22, h⟩ := bind_ h
   refine cl_ Try.func83 (by kernel_rfl) rfl rfl rfl rfl (go0 rfl) (argc (v := .agg #[.int .i64 1, .int .i64 r19_1, .int .i64 0]) rfl (argc (v := .slice Au4_0 r4_1.length ku4_0) rfl argn)) ?_
   refine (impl_DoesFit.calls k 1 r19_1 0 Au4_0 ku4_0 r4_1 _ _ _ (Cu4_0 _ (jB (jB (jB (jB (jB (jB (jB (jB (jB (jB bb5 bb6) bb7) bb8) bb10) bb12) bb13) bb15) bb19) bb20) bb21)) qu4_0 e22).mono ?_
   rintro e w22 ⟨rfl, bb22⟩
   refine ⟨_, rfl, ?_⟩
   refine m0 (.tuple #[.bool r22_1, .bool r22_2]) rfl rfl rfl rfl rfl ?_
   refine x0 (.bool r22_1) rfl rfl rfl rfl rfl rfl ?_
   refine x0 (.bool r22_2) rfl rfl rfl rfl rfl rfl ?_
   refine a0 (.bool r22_1) rfl rfl rfl rfl rfl ?_
   refine a0 (.bool r22_2) rfl rfl rfl rfl rfl ?_
   refine nilt ?_
   refine wp_seq ?_
   refine wp_region_lit ?_
   refine m0 (.int .i64 r20_1) rfl rfl rfl rfl rfl ?_
   refine vr_ (go0 rfl) rfl (run_bd (vals := #[(0, .int .i64 3), (1, .int .i64 r20_1)]) rfl rfl (by simp [ev0, upd, upd]) (L_.bd58_0_1 3 r20_1)) ?_
   refine m0 (.slice Au4_0 r4_1.length ku4_0) rfl rfl rfl rfl (Eq.trans (S15 5 rfl) rfl) ?_
   obtain ⟨⟨r23_1, r23_2⟩, e23, h⟩ := bind_ h
   refine cl_ Try.func83 (by kernel_rfl) rfl rfl rfl rfl (go0 rfl) (argc (v := .agg #[.int .i64 3, .int .i64 r20_1, .int .i64 0]) rfl (argc (v := .slice Au4_0 r4_1.length ku4_0) rfl argn)) ?_
   refine (impl_DoesFit.calls k 3 r20_1 0 Au4_0 ku4_0 r4_1 _ _ _ (Cu4_0 _ (jB (jB (jB (jB (jB (jB (jB (jB (jB (jB (jB bb5 bb6) bb7) bb8) bb10) bb12) bb13) bb15) bb19) bb20) bb21) bb22)) qu4_0 e23).mono ?_
   rintro e w23 ⟨rfl, bb23⟩
   refine ⟨_, rfl, ?_⟩
   refine m0 (.tuple #[.bool r23_1, .bool r23_2]) rfl rfl rfl rfl rfl ?_
   refine x0 (.bool r23_1) rfl rfl rfl rfl rfl rfl ?_
   refine x0 (.bool r23_2) rfl rfl rfl rfl rfl rfl ?_
   refine a0 (.bool r23_1) rfl rfl rfl rfl rfl ?_
   refine a0 (.bool r23_2) rfl rfl rfl rfl rfl ?_
   refine nilt ?_
   refine wp_seq ?_
   refine wp_region_lit ?_
   refine m0 (.int .i64 r21_1) rfl rfl rfl rfl rfl ?_
   refine vr_ (go0 rfl) rfl (run_bd (vals := #[(0, .int .i64 4), (1, .int .i64 5), (2, .int .i64 r21_1)]) rfl rfl (by simp [ev0, upd, upd, upd]) (L_.bd58_0_1_2 4 5 r21_1)) ?_
   refine m0 (.slice Au4_0 r4_1.length ku4_0) rfl rfl rfl rfl (Eq.trans (S15 5 rfl) rfl) ?_
   obtain ⟨⟨r24_1, r24_2⟩, e24, h⟩ := bind_ h
   refine cl_ Try.func83 (by kernel_rfl) rfl rfl rfl rfl (go0 rfl) (argc (v := .agg #[.int .i64 4, .int .i64 5, .int .i64 r21_1]) rfl (argc (v := .slice Au4_0 r4_1.length ku4_0) rfl argn)) ?_
   refine (impl_DoesFit.calls k 4 5 r21_1 Au4_0 ku4_0 r4_1 _ _ _ (Cu4_0 _ (jB (jB (jB (jB (jB (jB (jB (jB (jB (jB (jB (jB bb5 bb6) bb7) bb8) bb10) bb12) bb13) bb15) bb19) bb20) bb21) bb22) bb23)) qu4_0 e24).mono ?_
   rintro e w24 ⟨rfl, bb24⟩
   refine ⟨_, rfl, ?_⟩
   refine m0 (.tuple #[.bool r24_1, .bool r24_2]) rfl rfl rfl rfl rfl ?_
   refine x0 (.bool r24_1) rfl rfl rfl rfl rfl rfl ?_
   refine x0 (.bool r24_2) rfl rfl rfl rfl rfl rfl ?_
   refine a0 (.bool r24_1) rfl rfl rfl rfl rfl ?_
   refine a0 (.bool r24_2) rfl rfl rfl rfl rfl ?_
   refine nilt ?_
   refine wp_seq ?_
   refine wp_seq ?_
   refine wp_region_lit ?_
   refine ld_ (v := .agg #[.slice Au5_0 r5_1.length ku5_0]) rfl rfl rfl (go0 rfl) x15_8 (load_g L_.st52 L_.sz1_52 (Gg6_0 _ (jB (jB (jB (jB (jB (jB (jB (jB (jB (jB (jB bb7 bb8) bb10) bb12) bb13) bb15) bb19) bb20) bb21) bb22) bb23) bb24))) ?_
   obtain ⟨r25_0, e25, h⟩ := bind_ h
   refine cl_ Try.func84 (by kernel_rfl) rfl rfl rfl rfl (go0 rfl) (argc (v := .agg #[.slice Au5_0 r5_1.length ku5_0]) rfl argn) ?_
   refine (impl_IsPuzzle.calls k Au5_0 ku5_0 r5_1 _ _ (Cu5_0 _ (jB (jB (jB (jB (jB (jB (jB (jB (jB (jB (jB (jB bb6 bb7) bb8) bb10) bb12) bb13) bb15) bb19) bb20) bb21) bb22) bb23) bb24)) qu5_0 e25).mono ?_
   rintro e w25 ⟨rfl, bb25⟩
   refine ⟨_, rfl, ?_⟩
   obtain ⟨c26, h⟩ := ifn h
   refine nt_ (c := false) rfl rfl rfl (go0 rfl) rfl c26 ?_
   refine m0 (.bool false) rfl rfl rfl rfl rfl ?_
   refine fa_ (v := .pointer (some ⟨g6_0, 0, none⟩)) rfl rfl rfl (go1 (j := 3) (t := 153) rfl (by kernel_rfl) rfl rfl) x15_8 (L_.fa52_0 g6_0) ?_
   refine ld_ (v := .slice Au5_0 r5_1.length ku5_0) rfl rfl rfl (go1 (j := 3) (t := 153) rfl (by kernel_rfl) rfl rfl) rfl (load_s L_.u50 ((cell_of_row _ _ 0 _ _ _ (Gg6_0 _ (jB (jB (jB (jB (jB (jB (jB (jB (jB (jB (jB (jB bb7 bb8) bb10) bb12) bb13) bb15) bb19) bb20) bb21) bb22) bb23) bb24) bb25))).trans rfl)) ?_
   refine ln_ L_.u50 rfl rfl rfl (go1 (j := 3) (t := 153) rfl (by kernel_rfl) rfl rfl) rfl ?_
   refine mv_ (v := .int .i64 r4_2) rfl rfl rfl (go1 (j := 3) (t := 153) rfl (by kernel_rfl) rfl rfl) (Eq.trans (S15 6 rfl) rfl) ?_
   obtain ⟨c27, h⟩ := ifn h
   refine bi_ (v := .bool (false)) rfl rfl rfl rfl (go1 (j := 3) (t := 153) rfl (by kernel_rfl) rfl rfl) rfl rfl (i_neq c27) ?_
   refine pk_ (b := false) (v := .bool false) rfl rfl rfl rfl rfl (go0 rfl) rfl rfl ?_
   refine m0 (.bool false) rfl rfl rfl rfl rfl ?_
   obtain ⟨c28, h⟩ := ify h
   refine mv_ (v := .bool true) rfl rfl rfl (go1 (j := 10) (t := 160) rfl (by kernel_rfl) rfl rfl) (Eq.trans rfl (vb c28)) ?_
   refine nt_ (c := false) rfl rfl rfl (go1 (j := 10) (t := 160) rfl (by kernel_rfl) rfl rfl) rfl rfl ?_
   refine pk_ (b := false) (v := .bool false) rfl rfl rfl rfl rfl (go0 rfl) rfl rfl ?_
   refine m0 (.bool false) rfl rfl rfl rfl rfl ?_
   obtain ⟨c29, h⟩ := ify h
   refine mv_ (v := .bool true) rfl rfl rfl (go1 (j := 14) (t := 164) rfl (by kernel_rfl) rfl rfl) (Eq.trans rfl (vb c29)) ?_
   refine nt_ (c := false) rfl rfl rfl (go1 (j := 14) (t := 164) rfl (by kernel_rfl) rfl rfl) rfl rfl ?_
   refine pk_ (b := false) (v := .bool false) rfl rfl rfl rfl rfl (go0 rfl) rfl rfl ?_
   refine m0 (.bool false) rfl rfl rfl rfl rfl ?_
   obtain ⟨c30, h⟩ := ify h
   refine mv_ (v := .bool true) rfl rfl rfl (go1 (j := 18) (t := 168) rfl (by kernel_rfl) rfl rfl) (Eq.trans rfl (vb c30)) ?_
   refine nt_ (c := false) rfl rfl rfl (go1 (j := 18) (t := 168) rfl (by kernel_rfl) rfl rfl) rfl rfl ?_
   refine pk_ (b := false) (v := .bool false) rfl rfl rfl rfl rfl (go0 rfl) rfl rfl ?_
   refine m0 (.bool false) rfl rfl rfl rfl rfl ?_
   obtain ⟨c31, h⟩ := ify h
   refine mv_ (v := .bool true) rfl rfl rfl (go1 (j := 22) (t := 172) rfl (by kernel_rfl) rfl rfl) (Eq.trans rfl (vb c31)) ?_
   refine nt_ (c := false) rfl rfl rfl (go1 (j := 22) (t := 172) rfl (by kernel_rfl) rfl rfl) rfl rfl ?_
   refine pk_ (b := false) (v := .bool false) rfl rfl rfl rfl rfl (go0 rfl) rfl rfl ?_
   refine m0 (.bool false) rfl rfl rfl rfl rfl ?_
   obtain ⟨c32, h⟩ := ify h
   refine mv_ (v := .bool true) rfl rfl rfl (go1 (j := 26) (t := 176) rfl (by kernel_rfl) rfl rfl) (Eq.trans rfl (vb c32)) ?_
   refine nt_ (c := false) rfl rfl rfl (go1 (j := 26) (t := 176) rfl (by kernel_rfl) rfl rfl) rfl rfl ?_
   refine pk_ (b := false) (v := .bool false) rfl rfl rfl rfl rfl (go0 rfl) rfl rfl ?_
   refine m0 (.bool false) rfl rfl rfl rfl rfl ?_
   obtain ⟨c33, h⟩ := ify h
   refine mv_ (v := .bool true) rfl rfl rfl (go1 (j := 30) (t := 180) rfl (by kernel_rfl) rfl rfl) (Eq.trans rfl (vb c33)) ?_
   refine nt_ (c := false) rfl rfl rfl (go1 (j := 30) (t := 180) rfl (by kernel_rfl) rfl rfl) rfl rfl ?_
   refine pk_ (b := false) (v := .bool false) rfl rfl rfl rfl rfl (go0 rfl) rfl rfl ?_
   refine m0 (.bool false) rfl rfl rfl rfl rfl ?_
   obtain ⟨c34, h⟩ := ify h
   refine mv_ (v := .bool true) rfl rfl rfl (go1 (j := 34) (t := 184) rfl (by kernel_rfl) rfl rfl) (Eq.trans rfl (vb c34)) ?_
   refine nt_ (c := false) rfl rfl rfl (go1 (j := 34) (t := 184) rfl (by kernel_rfl) rfl rfl) rfl rfl ?_
   refine pk_ (b := false) (v := .bool false) rfl rfl rfl rfl rfl (go0 rfl) rfl rfl ?_
   refine m0 (.bool false) rfl rfl rfl rfl rfl ?_
   obtain ⟨c35, h⟩ := ify h
   refine mv_ (v := .bool true) rfl rfl rfl (go1 (j := 38) (t := 188) rfl (by kernel_rfl) rfl rfl) (Eq.trans rfl (vb c35)) ?_
   refine nt_ (c := false) rfl rfl rfl (go1 (j := 38) (t := 188) rfl (by kernel_rfl) rfl rfl) rfl rfl ?_
   refine pk_ (b := false) (v := .bool false) rfl rfl rfl rfl rfl (go0 rfl) rfl rfl ?_
   refine m0 (.bool false) rfl rfl rfl rfl rfl ?_
   obtain ⟨c36, h⟩ := ify h
   refine mv_ (v := .bool true) rfl rfl rfl (go1 (j := 42) (t := 192) rfl (by kernel_rfl) rfl rfl) (Eq.trans rfl (vb c36)) ?_
   refine nt_ (c := false) rfl rfl rfl (go1 (j := 42) (t := 192) rfl (by kernel_rfl) rfl rfl) rfl rfl ?_
   refine pk_ (b := false) (v := .bool false) rfl rfl rfl rfl rfl (go0 rfl) rfl rfl ?_
   refine nilt ?_
   refine cF ?_ rfl rfl
   refine wp_skip ?_
   refine then_n ?_
   refine wp_seq ?_
   refine wp_region_lit ?_
   refine fa_ (v := .pointer (some ⟨g6_0, 0, none⟩)) rfl rfl rfl (go0 rfl) x15_8 (L_.fa52_0 g6_0) ?_
   refine ld_ (v := .slice Au5_0 r5_1.length ku5_0) rfl rfl rfl (go0 rfl) rfl (load_s L_.u50 ((cell_of_row _ _ 0 _ _ _ (Gg6_0 _ (jB (jB (jB (jB (jB (jB (jB (jB (jB (jB (jB (jB bb7 bb8) bb10) bb12) bb13) bb15) bb19) bb20) bb21) bb22) bb23) bb24) bb25))).trans rfl)) ?_
   refine ln_ L_.u50 rfl rfl rfl (go0 rfl) rfl ?_
   refine m0 (.int .i64 0) rfl rfl rfl rfl rfl ?_
   refine nilt ?_
   refine wp_block ?_
   exact head_loop (L_.w37 k r ws k _ _ A1 k1 l1 (Eq.trans (S15 1 rfl) h1) q1 (On.adv C1 (jB (jB (jB (jB (jB (jB (jB (jB (jB (jB (jB (jB (jB (jB (jB (jB bb2 bb4) bb5) bb6) bb7) bb8) bb10) bb12) bb13) bb15) bb19) bb20) bb21) bb22) bb23) bb24) bb25)) Au4_0 ku4_0 r4_1 (Eq.trans (S15 5 rfl) rfl) qu4_0 (On.adv Cu4_0 (jB (jB (jB (jB (jB (jB (jB (jB (jB (jB (jB (jB (jB (jB bb5 bb6) bb7) bb8) bb10) bb12) bb13) bb15) bb19) bb20) bb21) bb22) bb23) bb24) bb25)) Au5_0 ku5_0 r5_1 rfl qu5_0 (On.adv Cu5_0 (jB (jB (jB (jB (jB (jB (jB (jB (jB (jB (jB (jB (jB bb6 bb7) bb8) bb10) bb12) bb13) bb15) bb19) bb20) bb21) bb22) bb23) bb24) bb25)) (r5_1.length : Int) rfl 0 rfl (jB B0 (jB (jB (jB (jB (jB (jB (jB (jB (jB (jB (jB (jB (jB (jB (jB (jB bb2 bb4) bb5) bb6) bb7) bb8) bb10) bb12) bb13) bb15) bb19) bb20) bb21) bb22) bb23) bb24) bb25)) h)
 refine cF ?_ (Eq.trans rfl (vb c18)) rfl
 refine wp_skip ?_
 refine then_n ?_
 exact L_.w46 k r ws _ _ A1 k1 l1 (Eq.trans (S15 1 rfl) h1) q1 (On.adv C1 (jB (jB (jB (jB (jB (jB (jB (jB (jB bb2 bb4) bb5) bb6) bb7) bb8) bb10) bb12) bb13) bb15)) (jB B0 (jB (jB (jB (jB (jB (jB (jB (jB (jB bb2 bb4) bb5) bb6) bb7) bb8) bb10) bb12) bb13) bb15)) h
def laws_FnPiecesHidden.f (k : Nat) (l0 : List Int) (l1 : List Int) : Option Bool := laws_FnPiecesHidden.p1 k l0 l1
theorem laws_FnPiecesHidden.calls (k : Nat) (A0 : Option Addr) (c0 : Nat) (l0 : List Int) (A1 : Option Addr) (c1 : Nat) (l1 : List Int) (r : Bool) (w : World) (hr0 : Kd.C (Kd.int .u8) w A0 l0.length l0) (hc0 : l0.length ≤ c0) (hr1 : Kd.C (Kd.int .u8) w A1 l1.length l1) (hc1 : l1.length ≤ c1) (h : laws_FnPiecesHidden.f k l0 l1 = some r) :
 Calls Try.prog 6 #[.slice A0 l0.length c0, .slice A1 l1.length c1] w fun e w' => e = .returned (.bool r) ∧ Below w.heap.size w w' := by
 refine enter (n := 457) (args := [.slice A0 l0.length c0, .slice A1 l1.length c1]) Try.func6 rfl rfl (by simp) (fun f0 hf => ?_)
 have B0 := jU w.heap.size w
 have h0 := hf 0 _ rfl
 have C0 := on_C hr0
 have h1 := hf 1 _ rfl
 have C1 := on_C hr1
 exact L_.w1 k r w _ _ A0 c0 l0 h0 hc0 C0 A1 c1 l1 h1 hc1 C1 B0 h
/-- What is left to prove of the law: numbers and lists alone. -/
def laws_FnPiecesHidden.Pure : Prop := ∀ (l0 : List Int) (l1 : List Int), l0.length ≤ maxLen → l0.length * 1 ≤ 140737488351232 → (∀ x ∈ l0, (Lit.int .u8 x).wf = true) → l1.length ≤ maxLen → l1.length * 1 ≤ 140737488351232 → (∀ x ∈ l1, (Lit.int .u8 x).wf = true) → ∃ k, laws_FnPiecesHidden.f k l0 l1 = some true
theorem laws_FnPiecesHidden.walk (P : laws_FnPiecesHidden.Pure) (a0 : Option Addr) (len0 cap0 : Nat) (z0 : List Int) (a1 : Option Addr) (len1 cap1 : Nat) (z1 : List Int) (w : World) (w0 : (a0 = none ∧ len0 = 0 ∧ cap0 = 0 ∧ z0 = []) ∨ ∃ x, a0 = some x ∧ len0 ≤ cap0 ∧ cap0 ≤ maxLen ∧ z0.length = cap0 ∧ (∀ i, i < z0.length → w.cell? (x.add i) = some (.int .u8 (z0.getD i 0))) ∧ ∀ n ∈ z0, (Lit.int .u8 n).wf = true) (y0 : len0 * 1 ≤ 140737488351232) (w1 : (a1 = none ∧ len1 = 0 ∧ cap1 = 0 ∧ z1 = []) ∨ ∃ x, a1 = some x ∧ len1 ≤ cap1 ∧ cap1 ≤ maxLen ∧ z1.length = cap1 ∧ (∀ i, i < z1.length → w.cell? (x.add i) = some (.int .u8 (z1.getD i 0))) ∧ ∀ n ∈ z1, (Lit.int .u8 n).wf = true) (y1 : len1 * 1 ≤ 140737488351232) :
 Calls Try.prog 6 #[.slice a0 len0 cap0, .slice a1 len1 cap1] w fun e w' => e = .returned (.bool true) ∧ Below w.heap.size w w' := by
 obtain ⟨l0, rfl, hr0, hm0, hw0, hc0⟩ := ReadsInt.ofRowC w0
 obtain ⟨l1, rfl, hr1, hm1, hw1, hc1⟩ := ReadsInt.ofRowC w1
 obtain ⟨k, h⟩ := P l0 l1 hm0 y0 hw0 hm1 y1 hw1
 exact laws_FnPiecesHidden.calls k _ _ l0 _ _ l1 true w (Kd.C_of_reads (d := (0 : Int)) (h1 := fun _ => rfl) hr0) hc0 (Kd.C_of_reads (d := (0 : Int)) (h1 := fun _ => rfl) hr1) hc1 h
end

end Go.Proofs.Ytgeoihhibglhgaa.PFnPiecesHidden
