-- printed by wip/xp
import Derived.Test.YtgeoihhibglhgaaPFnPiecesHiddenx0
import Derived.Test.YtgeoihhibglhgaaPFnPiecesHiddenx3
import Derived.Test.YtgeoihhibglhgaaPFnPiecesHiddenx5
import Derived.Test.YtgeoihhibglhgaaPFnPiecesHiddenx6
import Derived.Test.YtgeoihhibglhgaaPFnPiecesHiddenx7
import Derived.Test.YtgeoihhibglhgaaPFnPiecesHiddenx9
set_option maxHeartbeats 8000000
set_option maxRecDepth 100000
namespace Go.Proofs.Ytgeoihhibglhgaa.PFnPiecesHidden
open Go.RowKit Go.Proofs.YtgeoihhibglhgaaW.PrintWords Go.Proofs.YtgeoihhibglhgaaW.PrintLast Go.Proofs.YtgeoihhibglhgaaW.PrintMore Go.Proofs.Ytgeoihhibglhgaa.Xmv
attribute [local go_sem] max2_int min2_int max_two min_two max_three min_three max_four min_four
set_option linter.unusedVariables false
set_option linter.unusedSimpArgs false

/-! ### spec_pzFits: function 232 -/
def spec_pzFits.f (k : Nat) (a0_0 : Int) (a0_1 : Int) (a0_2 : Int) (l1 : List Int) : Option (Bool) := (spec_pzAlone.f a0_0).bind fun t468 => (if t468 = true then ((spec_pzValue.f k a0_0 0 l1).bind fun t469 => (some (t469 == a0_1))) else ((spec_pzValue.f k a0_0 a0_1 l1).bind fun t470 => (some (t470 == a0_2))))
def spec_pzFits.T2 : Bool × List (List Nat × List Nat) := (true, [([], []), ([0], [0]), ([], []), ([1, 2], [1, 2]), ([], []), ([4], [4]), ([3, 5], [3, 5]), ([6, 3, 0, 1, 2, 3, 4, 5, 6], [6])])
def spec_pzFits.B2 : List Nat := [0, 1, 0, 7, 0, 16, 63, 127]
theorem spec_pzFits.tab2 : rtab .any (opsOf Try.f232 2) = spec_pzFits.T2 := by kernel_rfl
theorem spec_pzFits.bits2 : waitsOk spec_pzFits.T2.2 spec_pzFits.B2 = true := by kernel_rfl
def spec_pzFits.T3 : Bool × List (List Nat × List Nat) := (true, [([], []), ([0], [0]), ([], []), ([2], [2]), ([], []), ([1, 3, 4], [1, 3, 4]), ([], []), ([6], [6]), ([5, 7], [5, 7]), ([8, 5, 0, 1, 2, 3, 4, 5, 6, 7, 8], [8])])
def spec_pzFits.B3 : List Nat := [0, 1, 0, 4, 0, 31, 0, 64, 255, 511]
theorem spec_pzFits.tab3 : rtab .any (opsOf Try.f232 3) = spec_pzFits.T3 := by kernel_rfl
theorem spec_pzFits.bits3 : waitsOk spec_pzFits.T3.2 spec_pzFits.B3 = true := by kernel_rfl
theorem spec_pzFits.calls (k : Nat) (a0_0 : Int) (a0_1 : Int) (a0_2 : Int) (A1 : Option Addr) (c1 : Nat) (l1 : List Int) (r : Bool) (w : World) (hr1 : Kd.C (Kd.int .i64) w A1 l1.length l1) (hc1 : l1.length ≤ c1) (h : spec_pzFits.f k a0_0 a0_1 a0_2 l1 = some r) :
 Calls Try.prog 232 #[.agg #[.int .i64 a0_0, .int .i64 a0_1, .int .i64 a0_2], .slice A1 l1.length c1] w fun e w' => e = .returned (.bool r) ∧ Below w.heap.size w w' := by
 have hu58 := Try.underlying58
 have HR1 := jA hr1
 have HC1 := jA hc1
 clear hr1 hc1
 have HB := jA (jU w.heap.size w)
 have H := h; unfold spec_pzFits.f at H
 clear h
 replace H := jD H
 obtain ⟨t468, A30, H⟩ := H
 have A3 := jA A30
 clear A30
 replace H := Iw H; rcases H with ⟨rfl, H⟩ | ⟨rfl, H⟩
 · replace H := jD H
   obtain ⟨t469, A50, H⟩ := H
   have A5 := jA A50
   clear A50
   obtain rfl := jM H
   go_enter Try.func232, Try.ntmps232
   try go_wp2_with (first | ((with_reducible refine gate_dst (N := 2) rfl ?_); refine box_event ?hg (N := 2) ?hd (cs := #[.int .i64 a0_0, .int .i64 a0_1, .int .i64 a0_2]) (t := 58) ?hr ?_; (case hd => rfl); (case hg => rfl); (case hr => first | (go_simp; done) | (go_simp; rfl)); intro gb467 hg w6 hbox hb; have BK467 := jA (hbox); have GW467 := jA ((by rw [hg]; exact (jL Ub) : w.heap.size ≤ gb467)); have GE467 := jA ((by rw [hg]; exact (jL Ub) : w.heap.size ≤ gb467)); replace HB := jA (jB Ub hb); clear hb hbox hg; have hcz7_0 : w6.cell? ⟨gb467, 0, none⟩ = some (.int .i64 a0_0) := (jE BK467.out 0).trans rfl; have hcz7_1 : w6.cell? ⟨gb467, 1, none⟩ = some (.int .i64 a0_1) := (jE BK467.out 1).trans rfl; have hcz7_2 : w6.cell? ⟨gb467, 2, none⟩ = some (.int .i64 a0_2) := (jE BK467.out 2).trans rfl; have hfz7_0 := jF BK467.out 0; have hfz7_1 := jF BK467.out 1; have hfz7_2 := jF BK467.out 2) | (refine Gl 7 #[.int .i64 a0_0] Try.func285 ?_; (with_reducible refine (spec_pzAlone.calls a0_0 true _ A3.out).mono ?_); rintro e w' ⟨rfl, ⟨nd, rfl⟩⟩; refine ⟨_, rfl, ?_⟩))
   (try (rw [drewN_self w6]; generalize hq_ : World.drewN w6 _ = w6; have n0_ : Aside0 (w6.heap[gb467]? = some (.cells #[.int .i64 a0_0, .int .i64 a0_1, .int .i64 a0_2] 58 (0, 0))) := ⟨by rw [← hq_]; exact (Bm BK467.out)⟩; have n1_ : Aside0 (Below w.heap.size w w6) := ⟨by rw [← hq_]; exact Ub⟩; clear BK467 HB hq_; have BK467 := n0_; have HB := n1_; clear n0_ n1_; (try have hcyBK467_0 : w6.cell? ⟨gb467, 0, none⟩ = some (.int .i64 a0_0) := (jE BK467.out 0).trans rfl); (try have hcyBK467_1 : w6.cell? ⟨gb467, 1, none⟩ = some (.int .i64 a0_1) := (jE BK467.out 1).trans rfl); (try have hcyBK467_2 : w6.cell? ⟨gb467, 2, none⟩ = some (.int .i64 a0_2) := (jE BK467.out 2).trans rfl)))
   replace BK467 := jA (jR BK467.out); replace HB := jA (jQ HB.out)
   refine start_ (n := 8) (S := fun w' => w'.cell? ⟨gb467, 0, none⟩ = some (.int .i64 a0_0) ∧ w'.cell? ⟨gb467, 1, none⟩ = some (.int .i64 a0_1) ∧ w'.cell? ⟨gb467, 2, none⟩ = some (.int .i64 a0_2)) (ds := []) #[false, false, false, false, false, false, false, false] (by kernel_rfl) rfl rfl ⟨(jE BK467.out 0).trans rfl, (jE BK467.out 1).trans rfl, (jE BK467.out 2).trans rfl⟩ (fun hHeld => ?_); refine with_tabW spec_pzFits.tab2 spec_pzFits.bits2 (fun HT_ HW_ => ?_)
   generalize w6.drew = w8 at BK467 HB hHeld ⊢
   refine Pu 0 8 #[true, false, false, false, false, false, false, false] HT_.out ?_
   refine Pu 2 10 #[true, false, true, false, false, false, false, false] HT_.out ?_
   refine Pu 4 12 #[true, false, true, false, true, false, false, false] HT_.out ?_
   refine take_ (i := 1) (N := some 9) (v := ?_) (a' := ?_) #[true, true, true, false, true, false, false, false] rfl rfl (take_ofW HT_.out HW_.out (by kernel_rfl)) (fun _ _ _ h => h) (Or.inl ⟨by rfl, ?_⟩) hHeld ?_ ?_
   rotate_left
   · rintro w' ⟨s0, s1, s2⟩
     go_simp
     with_reducible rfl
   rotate_left
   · simp only [Act.put, List.setIfInBounds_toArray, List.set_cons_zero, List.set_cons_succ, i64_w, i32_w]
     rfl
   refine take_ (i := 5) (N := some 13) (v := ?_) (a' := ?_) #[true, true, true, false, true, true, false, false] rfl rfl (take_ofW HT_.out HW_.out (by kernel_rfl)) (fun _ _ _ h => h) (Or.inl ⟨by rfl, ?_⟩) hHeld ?_ ?_
   rotate_left
   · rintro w' ⟨s0, s1, s2⟩
     go_simp
     with_reducible rfl
   rotate_left
   · simp only [Act.put, List.setIfInBounds_toArray, List.set_cons_zero, List.set_cons_succ, i64_w, i32_w]
     rfl
   refine one_ (i := 3) (N := some 11) #[true, true, true, true, true, true, false, false] rfl rfl (one_of HT_.out (by kernel_rfl)) (by decide) (fun K hK => ?_)
   refine goes_ Try.func286 (by kernel_rfl) rfl #[.int .i64 a0_0, .int .i64 0, .slice A1 l1.length c1] (by rfl) rfl rfl Ga ?_
   with_reducible refine (spec_pzValue.calls k a0_0 0 _ _ l1 t469 _ ?side1 ?side2 A5.out).mono ?_
   (case side1 => repeat (first | exact (jY HR1.out HB.out) | (with_reducible refine Xc ?_)))
   (case side2 => exact HC1.out)
   rintro e w9 ⟨rfl, hb⟩
   refine ⟨_, rfl, ?_⟩
   replace BK467 := jA (jN (g := gb467) (o := .cells #[.int .i64 a0_0, .int .i64 a0_1, .int .i64 a0_2] 58 (0, 0)) (Bm BK467.out) hb); replace HB := jA (jB Ub hb); (try clear hb); (try clear hb2); (try clear hk); (try clear hi)
   refine hK.out _ _ ⟨(jE BK467.out 0).trans rfl, (jE BK467.out 1).trans rfl, (jE BK467.out 2).trans rfl⟩ (fun hHeld => ?_)
   clear hK K
   refine norm_ (a' := ?_) ?_ ?_
   rotate_left
   · show Act.put _ (some 11) _ = _
     simp only [Act.put, List.setIfInBounds_toArray, List.set_cons_zero, List.set_cons_succ, i64_w, i32_w]
     rfl
   refine Pu 6 14 #[true, true, true, true, true, true, true, false] HT_.out ?_
   refine Pu 7 4 #[true, true, true, true, true, true, true, true] HT_.out ?_
   refine done_ (done_of HT_.out (by kernel_rfl)) ?_
   try go_wp2
   go_ret
   exact ⟨Re, Ub⟩
 replace H := jD H
 obtain ⟨t470, A100, H⟩ := H
 have A10 := jA A100
 clear A100
 obtain rfl := jM H
 go_enter Try.func232, Try.ntmps232
 try go_wp2_with (first | ((with_reducible refine gate_dst (N := 2) rfl ?_); refine box_event ?hg (N := 2) ?hd (cs := #[.int .i64 a0_0, .int .i64 a0_1, .int .i64 a0_2]) (t := 58) ?hr ?_; (case hd => rfl); (case hg => rfl); (case hr => first | (go_simp; done) | (go_simp; rfl)); intro gb467 hg w11 hbox hb; have BK467 := jA (hbox); have GW467 := jA ((by rw [hg]; exact (jL Ub) : w.heap.size ≤ gb467)); have GE467 := jA ((by rw [hg]; exact (jL Ub) : w.heap.size ≤ gb467)); replace HB := jA (jB Ub hb); clear hb hbox hg; have hcz12_0 : w11.cell? ⟨gb467, 0, none⟩ = some (.int .i64 a0_0) := (jE BK467.out 0).trans rfl; have hcz12_1 : w11.cell? ⟨gb467, 1, none⟩ = some (.int .i64 a0_1) := (jE BK467.out 1).trans rfl; have hcz12_2 : w11.cell? ⟨gb467, 2, none⟩ = some (.int .i64 a0_2) := (jE BK467.out 2).trans rfl; have hfz12_0 := jF BK467.out 0; have hfz12_1 := jF BK467.out 1; have hfz12_2 := jF BK467.out 2) | (refine Gl 7 #[.int .i64 a0_0] Try.func285 ?_; (with_reducible refine (spec_pzAlone.calls a0_0 false _ A3.out).mono ?_); rintro e w' ⟨rfl, ⟨nd, rfl⟩⟩; refine ⟨_, rfl, ?_⟩))
 (try (rw [drewN_self w11]; generalize hq_ : World.drewN w11 _ = w11; have n0_ : Aside0 (w11.heap[gb467]? = some (.cells #[.int .i64 a0_0, .int .i64 a0_1, .int .i64 a0_2] 58 (0, 0))) := ⟨by rw [← hq_]; exact (Bm BK467.out)⟩; have n1_ : Aside0 (Below w.heap.size w w11) := ⟨by rw [← hq_]; exact Ub⟩; clear BK467 HB hq_; have BK467 := n0_; have HB := n1_; clear n0_ n1_; (try have hcyBK467_0 : w11.cell? ⟨gb467, 0, none⟩ = some (.int .i64 a0_0) := (jE BK467.out 0).trans rfl); (try have hcyBK467_1 : w11.cell? ⟨gb467, 1, none⟩ = some (.int .i64 a0_1) := (jE BK467.out 1).trans rfl); (try have hcyBK467_2 : w11.cell? ⟨gb467, 2, none⟩ = some (.int .i64 a0_2) := (jE BK467.out 2).trans rfl)))
 replace BK467 := jA (jR BK467.out); replace HB := jA (jQ HB.out)
 refine start_ (n := 10) (S := fun w' => w'.cell? ⟨gb467, 0, none⟩ = some (.int .i64 a0_0) ∧ w'.cell? ⟨gb467, 1, none⟩ = some (.int .i64 a0_1) ∧ w'.cell? ⟨gb467, 2, none⟩ = some (.int .i64 a0_2)) (ds := []) #[false, false, false, false, false, false, false, false, false, false] (by kernel_rfl) rfl rfl ⟨(jE BK467.out 0).trans rfl, (jE BK467.out 1).trans rfl, (jE BK467.out 2).trans rfl⟩ (fun hHeld => ?_); refine with_tabW spec_pzFits.tab3 spec_pzFits.bits3 (fun HT_ HW_ => ?_)
 generalize w11.drew = w13 at BK467 HB hHeld ⊢
 refine Pu 0 15 #[true, false, false, false, false, false, false, false, false, false] HT_.out ?_
 refine Pu 2 17 #[true, false, true, false, false, false, false, false, false, false] HT_.out ?_
 refine Pu 4 19 #[true, false, true, false, true, false, false, false, false, false] HT_.out ?_
 refine Pu 6 21 #[true, false, true, false, true, false, true, false, false, false] HT_.out ?_
 refine take_ (i := 1) (N := some 16) (v := ?_) (a' := ?_) #[true, true, true, false, true, false, true, false, false, false] rfl rfl (take_ofW HT_.out HW_.out (by kernel_rfl)) (fun _ _ _ h => h) (Or.inl ⟨by rfl, ?_⟩) hHeld ?_ ?_
 rotate_left
 · rintro w' ⟨s0, s1, s2⟩
   go_simp
   with_reducible rfl
 rotate_left
 · simp only [Act.put, List.setIfInBounds_toArray, List.set_cons_zero, List.set_cons_succ, i64_w, i32_w]
   rfl
 refine take_ (i := 3) (N := some 18) (v := ?_) (a' := ?_) #[true, true, true, true, true, false, true, false, false, false] rfl rfl (take_ofW HT_.out HW_.out (by kernel_rfl)) (fun _ _ _ h => h) (Or.inl ⟨by rfl, ?_⟩) hHeld ?_ ?_
 rotate_left
 · rintro w' ⟨s0, s1, s2⟩
   go_simp
   with_reducible rfl
 rotate_left
 · simp only [Act.put, List.setIfInBounds_toArray, List.set_cons_zero, List.set_cons_succ, i64_w, i32_w]
   rfl
 refine take_ (i := 7) (N := some 22) (v := ?_) (a' := ?_) #[true, true, true, true, true, false, true, true, false, false] rfl rfl (take_ofW HT_.out HW_.out (by kernel_rfl)) (fun _ _ _ h => h) (Or.inl ⟨by rfl, ?_⟩) hHeld ?_ ?_
 rotate_left
 · rintro w' ⟨s0, s1, s2⟩
   go_simp
   with_reducible rfl
 rotate_left
 · simp only [Act.put, List.setIfInBounds_toArray, List.set_cons_zero, List.set_cons_succ, i64_w, i32_w]
   rfl
 refine one_ (i := 5) (N := some 20) #[true, true, true, true, true, true, true, true, false, false] rfl rfl (one_of HT_.out (by kernel_rfl)) (by decide) (fun K hK => ?_)
 refine goes_ Try.func286 (by kernel_rfl) rfl #[.int .i64 a0_0, .int .i64 a0_1, .slice A1 l1.length c1] (by rfl) rfl rfl Ga ?_
 with_reducible refine (spec_pzValue.calls k a0_0 a0_1 _ _ l1 t470 _ ?side1 ?side2 A10.out).mono ?_
 (case side1 => repeat (first | exact (jY HR1.out HB.out) | (with_reducible refine Xc ?_)))
 (case side2 => exact HC1.out)
 rintro e w14 ⟨rfl, hb⟩
 refine ⟨_, rfl, ?_⟩
 replace BK467 := jA (jN (g := gb467) (o := .cells #[.int .i64 a0_0, .int .i64 a0_1, .int .i64 a0_2] 58 (0, 0)) (Bm BK467.out) hb); replace HB := jA (jB Ub hb); (try clear hb); (try clear hb2); (try clear hk); (try clear hi)
 refine hK.out _ _ ⟨(jE BK467.out 0).trans rfl, (jE BK467.out 1).trans rfl, (jE BK467.out 2).trans rfl⟩ (fun hHeld => ?_)
 clear hK K
 refine norm_ (a' := ?_) ?_ ?_
 rotate_left
 · show Act.put _ (some 20) _ = _
   simp only [Act.put, List.setIfInBounds_toArray, List.set_cons_zero, List.set_cons_succ, i64_w, i32_w]
   rfl
 refine Pu 8 23 #[true, true, true, true, true, true, true, true, true, false] HT_.out ?_
 refine Pu 9 4 #[true, true, true, true, true, true, true, true, true, true] HT_.out ?_
 refine done_ (done_of HT_.out (by kernel_rfl)) ?_
 try go_wp2
 go_ret
 exact ⟨Re, Ub⟩

/-! ### spec_pzLook: function 314 -/
-- GIVEN loop.example/g01305/spec.pzLook raw=1
-- USES hidden idxO
/-- The piece from which a list goes on. -/
def fromOf (l : List Int) : Int := l.getLast?.getD 1
theorem fromOf_snoc (l : List Int) (q : Int) : fromOf (l ++ [q]) = q := by unfold fromOf; rw [List.getLast?_append]; rfl
theorem fromOf_rd (l : List Int) (h : 0 < l.length) : rd l ((l.length : Int) - 1) = fromOf l := by
  unfold fromOf rd
  rw [List.getLast?_eq_getElem?, show ((l.length : Int) - 1).toNat = l.length - 1 by omega, List.getD_eq_getElem?_getD, List.getElem?_eq_getElem (by omega)]
  rfl
/-- The first clue that a list does not fit, or -1. -/
def badS (k : Nat) (cs : List S58) (l : List Int) : Option Int := idxO (fun x : S58 => (spec_pzFits.f k x.f0 x.f1 x.f2 l).bind fun t => some (!t)) cs 0
def fitS (k : Nat) (cs : List S58) (l : List Int) : Bool := !(decide (0 ≤ (badS k cs l).getD 0))

/-- What a look has done. -/
def LookP (gO : Nat) (base : Nat) (w0 w : World) (v0 : Value) (tot : List (List Int)) (w' : World) : Prop :=
  ∃ v', w'.heap[gO]? = some (.cells #[v'] 63 (0, 0)) ∧ Kd.S (Kd.slice 3 (Kd.int .i64)) 24 w' base (fun _ => True) v' tot ∧ Kept w w' (fun k => k = gO ∨ some k = v0.ownBlock) ∧ (∀ k, v'.ownBlock = some k → v0.ownBlock = some k ∨ w.heap.size ≤ k) ∧ Below base w0 w'

set_option maxHeartbeats 4000000 in
set_option maxRecDepth 100000 in
theorem pzLook_calls (k : Nat) (Ac : Option Addr) (cc : Nat) (cs : List S58) (gO : Nat) (w0 : World) (hbO : w0.heap.size ≤ gO) (hCc : Kd.C k58 w0 Ac cs.length cs) (hcc : cs.length ≤ cc) : ∀ (d : Nat) (A : Option Addr) (c : Nat) (l : List Int) (v : Value) (xs : List (List Int)) (w : World),
    l.length + d = 4 → (∀ l' ∈ hidL d l (fromOf l), (badS k cs l').isSome = true) → 1 ≤ fromOf l → fromOf l ≤ 6 → (xs ++ (hidL d l (fromOf l)).filter (fitS k cs)).length ≤ 1000000 →
    w.heap[gO]? = some (.cells #[v] 63 (0, 0)) →
    Below w0.heap.size w0 w →
    Kd.S (Kd.slice 3 (Kd.int .i64)) 24 w w0.heap.size (fun k => some k ≠ (Value.slice A l.length c).ownBlock) v xs →
    Kd.R (Kd.int .i64) 3 w w0.heap.size (fun _ => True) (.slice A l.length c) l →
    Calls Try.prog 314 #[.slice Ac cs.length cc, .slice A l.length c, .pointer (some ⟨gO, 0, none⟩)] w fun e w' => e = .returned (.tuple #[]) ∧ LookP gO w0.heap.size w0 w v (xs ++ (hidL d l (fromOf l)).filter (fitS k cs)) w' := by
  intro d
  induction d with
  | zero =>
    intro A c l v xs w hl hsome hp1 hp6 hlen hO hB hS hR
    have HO := jA hO
    have HB := jA hB
    have HS := jA hS
    have HR := jA hR
    have HL := jA hlen
    have HSO := jA hsome
    have HC0 := jA hCc
    obtain ⟨r, hr⟩ := Option.isSome_iff_exists.1 (hsome l (by simp [hidL]))
    have HR0 := jA hr
    have hfit : fitS k cs l = !(decide (0 ≤ r)) := by unfold fitS; rw [hr]; rfl
    have HF := jA hfit
    have hbig : cs.length ≤ 9223372036854775807 := hCc.2.1
    clear hO hB hS hR hlen hsome hr hfit hCc
    go_enter Try.func314, Try.ntmps314
    go_wp2
    go_loopg [6, 13] cs.length (fun gg s6 s13 wr => ∃ (b : Bool) (kk : Int), s6 = .bool b ∧ s13 = .int .i64 kk ∧ Aside0 (0 ≤ kk ∧ kk ≤ cs.length ∧ cs.length - kk ≤ gg) ∧ Aside0 (Below w.heap.size w wr) ∧ Aside0 (b = true ∧ idxO (fun x : S58 => (spec_pzFits.f k x.f0 x.f1 x.f2 l).bind fun t => some (!t)) (cs.drop kk.toNat) kk = some r ∨ b = false ∧ 0 ≤ r))
    case atStart => exact ⟨true, 0, by simp, by simp, ⟨by omega⟩, ⟨jU _ w⟩, ⟨.inl ⟨rfl, HR0.out⟩⟩⟩
    case round =>
      obtain ⟨b, kk, rfl, rfl, HK, HBr, HA⟩ := hrel
      have ⟨hk0, hk1, hk2⟩ := HK.out
      by_cases hlt : kk < (cs.length : Int)
      · obtain ⟨ad, e1, hx0, hx1, hx2⟩ := at_T58 (jY HC0.out (below_then HB.out HB.out.size HBr.out)) kk hk0 hlt
        cases e1
        have hlt0 := jK hlt
        have hlt1 := eq_true hlt
        have hk01 := eq_true hk0
        have HRl := jA (Kd.R_reads' (Kd.R_below HR.out HBr.out))
        cases b with
        | false =>
          have h0r : Aside0 (0 ≤ r) := ⟨by rcases HA.out with ⟨h, _⟩ | ⟨_, h⟩; cases h; exact h⟩
          clear hk2 hk1
          go_wp2
          go_roundg (gk - 1)
          case measure => have := HK.out; omega
          case rel =>
            have hK := HK.out
            exact ⟨false, kk + 1, rfl, (by first | rfl | rw [show wrap64 (kk + 1) = kk + 1 by unfold wrap64; omega]), ⟨by omega⟩, ⟨jP HBr.out _⟩, ⟨.inr ⟨rfl, h0r.out⟩⟩⟩
        | true =>
          have h1 : idxO (fun x : S58 => (spec_pzFits.f k x.f0 x.f1 x.f2 l).bind fun t => some (!t)) (cs.drop kk.toNat) kk = some r := by rcases HA.out with ⟨_, h⟩ | ⟨h, _⟩; exact h; cases h
          rw [idxO_drop _ z58 cs kk hk0 hlt] at h1
          obtain ⟨t', ht', h1⟩ := Option.bind_eq_some_iff.1 h1
          obtain ⟨t, ht, e2⟩ := Option.bind_eq_some_iff.1 ht'
          obtain rfl := jM e2
          have HT := jA (show spec_pzFits.f k (rd_T58 cs kk).f0 (rd_T58 cs kk).f1 (rd_T58 cs kk).f2 l = some t from ht)
          have H1 := jA h1
          clear h1 ht' ht e2 hk2 hk1
          go_wp2_with (first | ((try (refine gate_guard (by rfl) ?_; dsimp only)); go_at_call 232; refine (spec_pzFits.calls k (rd_T58 cs kk).f0 (rd_T58 cs kk).f1 (rd_T58 cs kk).f2 A c l t _ (Kd.C_alloc HRl.out.2.2 _) HRl.out.2.1 HT.out).mono ?_; rintro e w6 ⟨rfl, hb6⟩))
          go_roundg (gk - 1)
          case measure => have := HK.out; omega
          case rel =>
            have hK := HK.out
            refine ⟨t, kk + 1, (by first | rfl | simp), (by first | rfl | rw [show wrap64 (kk + 1) = kk + 1 by unfold wrap64; omega]), ⟨by omega⟩, ⟨jB (jP HBr.out _) hb6⟩, ⟨?_⟩⟩
            cases t with
            | true => exact .inl ⟨rfl, H1.out⟩
            | false => exact .inr ⟨rfl, by have e := jM H1.out; omega⟩
      · have hlt0 := jV hlt
        have hlt1 := eq_false hlt
        have hl4 : ((l.length : Int) == 4) = true := by simp; omega
        have HO1 := jA (jN HO.out HBr.out)
        have HS1 := jA (Kd.S_below HS.out HBr.out)
        have HRR := jA (Kd.R_below HR.out HBr.out)
        have HB1 := jA (below_then HB.out HB.out.size HBr.out)
        have hcO : wr.cell? ⟨gO, 0, none⟩ = some v := (jE HO1.out 0).trans rfl
        clear hk2
        cases b with
        | true =>
          have hrm : r = -1 := by
            rcases HA.out with ⟨_, h⟩ | ⟨h, _⟩
            · rw [List.drop_of_length_le (by omega), idxO] at h; exact (jM h).symm
            · cases h
          have HFT : Aside0 (fitS k cs l = true) := ⟨by rw [HF.out, hrm]; rfl⟩
          clear hrm
          go_wp2_with ((with_reducible refine gate_builtin (b := .append) (xs := #[.tmp 28, .tmp 30]) rfl ?_); at_builtin; refine Aside0.out ?_)
          refine jA ?_
          refine Kd.S_append (Kd.slice 3 (Kd.int .i64)) (w0 := w0) w0.heap.size rfl (.tmp 28) (.tmp 30) 63 24 (.slice none 0 0) 24 rfl Try.underlying63 info24 rfl (by decide) (by omega) v xs l [.slice A l.length c] (fun _ => True) (fun k => some k = (Value.slice A l.length c).ownBlock) rfl (by first | (go_simp; done) | (go_simp; rfl)) ?aP ?aK ?aF ?aO ?aB ?aS ?aL ?_
          (case aP => exact Kd.M_row (jW (Kd.R_tight rfl HRR.out) (fun _ h_ => h_)))
          (case aK => intro k hk; refine ⟨trivial, fun e => ?_⟩; obtain ⟨cs1, h1⟩ := Kd.R_typed HRR.out k hk.symm; obtain ⟨cs2, h2⟩ := Kd.S_typed HS1.out k e.symm; rw [h1] at h2; cases h2)
          (case aF => exact fun _ _ => trivial)
          (case aO => exact (Kd.S_mono HS1.out (fun k hk => ⟨trivial, hk⟩)))
          (case aB => exact HB1.out)
          (case aS => exact HB1.out.size)
          (case aL => have := HL.out; simp [hidL, HFT.out] at this; omega)
          intro v1 w1 ho hb hg hat
          obtain ⟨A1, c1, rfl⟩ := Kd.S_slice ho
          generalize hn1 : (xs ++ [l]).length = n1 at *
          have hne := Kd.S_ne HS1.out HO1.out (by decide)
          have hOg := js HO1.out hg hne
          have hcO1 : w1.cell? ⟨gO, 0, none⟩ = some v := (jE hOg 0).trans rfl
          have hfO1 := jF hOg 0
          have HO2 := jA (jp hOg 0 (.slice A1 n1 c1) (cs' := #[.slice A1 n1 c1]) rfl)
          have HS2 := jA (Kd.S_set ho hOg (by decide) 0 (.slice A1 n1 c1))
          have HK2 := jA (Kept.setCell (p := ⟨gO, 0, none⟩) (Kept.of_grown hg (Kept.of_below HBr.out (fun k => k = gO ∨ some k = v.ownBlock)) (fun k e => .inl (.inr e.symm))) (.inl (.inl rfl)) (.slice A1 n1 c1))
          have HB2 := jA (Below.setCell hb (p := ⟨gO, 0, none⟩) hbO (.slice A1 n1 c1))
          have HT2 : Aside0 (∀ k, (Value.slice A1 n1 c1).ownBlock = some k → v.ownBlock = some k ∨ w.heap.size ≤ k) := ⟨fun k e => by
            rcases hat with h | ⟨b, h, hb⟩
            · exact .inl (h ▸ e)
            · rw [h] at e; cases e; exact .inr (Nat.le_trans HBr.out.size hb)⟩
          clear hb ho hg hat hcO hOg HA HF HO1 HS1 HRR HB1
          go_wp2
          refine bodyPost_ret (results_none rfl _ _ _) rfl ?_
          exact ⟨rfl, _, HO2.out, by rw [show (hidL 0 l (fromOf l)).filter (fitS k cs) = [l] from by show [l].filter _ = _; rw [List.filter_cons, HFT.out]; rfl]; exact HS2.out, HK2.out, HT2.out, HB2.out⟩
        | false =>
          have h0r : 0 ≤ r := by rcases HA.out with ⟨h, _⟩ | ⟨_, h⟩; cases h; exact h
          have HFT : Aside0 (fitS k cs l = false) := ⟨by rw [HF.out, jK h0r]; rfl⟩
          clear h0r
          have HO2 := HO1
          have HS2 := jA (Kd.S_mono (ok' := fun _ => True) HS1.out (fun _ _ => trivial))
          have HK2 := jA (Kept.of_below HBr.out (fun k => k = gO ∨ some k = v.ownBlock))
          have HB2 := HB1
          have HT2 : Aside0 (∀ k, v.ownBlock = some k → v.ownBlock = some k ∨ w.heap.size ≤ k) := ⟨fun k e => .inl e⟩
          clear hcO HA HF HO1 HS1 HRR HB1
          go_wp2
          refine bodyPost_ret (results_none rfl _ _ _) rfl ?_
          exact ⟨rfl, _, HO2.out, by rw [show (hidL 0 l (fromOf l)).filter (fitS k cs) = [] from by show [l].filter _ = _; rw [List.filter_cons, HFT.out]; rfl]; exact (by rw [List.append_nil]; exact HS2.out), HK2.out, HT2.out, HB2.out⟩
  | succ d ih =>
    intro A c l v xs w hl hsome hp1 hp6 hlen hO hB hS hR
    have HO := jA hO
    have HB := jA hB
    have HS := jA hS
    have HR := jA hR
    have HL := jA hlen
    have IH := jA ih
    have HSO := jA hsome
    have HC0 := jA hCc
    obtain ⟨r, hr⟩ := Option.isSome_iff_exists.1 (hsome l (by simp [hidL]))
    have HR0 := jA hr
    have hfit : fitS k cs l = !(decide (0 ≤ r)) := by unfold fitS; rw [hr]; rfl
    have HF := jA hfit
    have hbig : cs.length ≤ 9223372036854775807 := hCc.2.1
    clear hO hB hS hR hlen ih hsome hr hfit hCc
    go_enter Try.func314, Try.ntmps314
    go_wp2
    go_loopg [6, 13] cs.length (fun gg s6 s13 wr => ∃ (b : Bool) (kk : Int), s6 = .bool b ∧ s13 = .int .i64 kk ∧ Aside0 (0 ≤ kk ∧ kk ≤ cs.length ∧ cs.length - kk ≤ gg) ∧ Aside0 (Below w.heap.size w wr) ∧ Aside0 (b = true ∧ idxO (fun x : S58 => (spec_pzFits.f k x.f0 x.f1 x.f2 l).bind fun t => some (!t)) (cs.drop kk.toNat) kk = some r ∨ b = false ∧ 0 ≤ r))
    case atStart => exact ⟨true, 0, by simp, by simp, ⟨by omega⟩, ⟨jU _ w⟩, ⟨.inl ⟨rfl, HR0.out⟩⟩⟩
    case round =>
      obtain ⟨b, kk, rfl, rfl, HK, HBr, HA⟩ := hrel
      have ⟨hk0, hk1, hk2⟩ := HK.out
      by_cases hlt : kk < (cs.length : Int)
      · obtain ⟨ad, e1, hx0, hx1, hx2⟩ := at_T58 (jY HC0.out (below_then HB.out HB.out.size HBr.out)) kk hk0 hlt
        cases e1
        have hlt0 := jK hlt
        have hlt1 := eq_true hlt
        have hk01 := eq_true hk0
        have HRl := jA (Kd.R_reads' (Kd.R_below HR.out HBr.out))
        cases b with
        | false =>
          have h0r : Aside0 (0 ≤ r) := ⟨by rcases HA.out with ⟨h, _⟩ | ⟨_, h⟩; cases h; exact h⟩
          clear hk2 hk1
          go_wp2
          go_roundg (gk - 1)
          case measure => have := HK.out; omega
          case rel =>
            have hK := HK.out
            exact ⟨false, kk + 1, rfl, (by first | rfl | rw [show wrap64 (kk + 1) = kk + 1 by unfold wrap64; omega]), ⟨by omega⟩, ⟨jP HBr.out _⟩, ⟨.inr ⟨rfl, h0r.out⟩⟩⟩
        | true =>
          have h1 : idxO (fun x : S58 => (spec_pzFits.f k x.f0 x.f1 x.f2 l).bind fun t => some (!t)) (cs.drop kk.toNat) kk = some r := by rcases HA.out with ⟨_, h⟩ | ⟨h, _⟩; exact h; cases h
          rw [idxO_drop _ z58 cs kk hk0 hlt] at h1
          obtain ⟨t', ht', h1⟩ := Option.bind_eq_some_iff.1 h1
          obtain ⟨t, ht, e2⟩ := Option.bind_eq_some_iff.1 ht'
          obtain rfl := jM e2
          have HT := jA (show spec_pzFits.f k (rd_T58 cs kk).f0 (rd_T58 cs kk).f1 (rd_T58 cs kk).f2 l = some t from ht)
          have H1 := jA h1
          clear h1 ht' ht e2 hk2 hk1
          go_wp2_with (first | ((try (refine gate_guard (by rfl) ?_; dsimp only)); go_at_call 232; refine (spec_pzFits.calls k (rd_T58 cs kk).f0 (rd_T58 cs kk).f1 (rd_T58 cs kk).f2 A c l t _ (Kd.C_alloc HRl.out.2.2 _) HRl.out.2.1 HT.out).mono ?_; rintro e w6 ⟨rfl, hb6⟩))
          go_roundg (gk - 1)
          case measure => have := HK.out; omega
          case rel =>
            have hK := HK.out
            refine ⟨t, kk + 1, (by first | rfl | simp), (by first | rfl | rw [show wrap64 (kk + 1) = kk + 1 by unfold wrap64; omega]), ⟨by omega⟩, ⟨jB (jP HBr.out _) hb6⟩, ⟨?_⟩⟩
            cases t with
            | true => exact .inl ⟨rfl, H1.out⟩
            | false => exact .inr ⟨rfl, by have e := jM H1.out; omega⟩
      · have hlt0 := jV hlt
        have hlt1 := eq_false hlt
        have hl4 : ((l.length : Int) == 4) = false := by simp; omega
        have HO1 := jA (jN HO.out HBr.out)
        have HS1 := jA (Kd.S_below HS.out HBr.out)
        have HRR := jA (Kd.R_below HR.out HBr.out)
        have HB1 := jA (below_then HB.out HB.out.size HBr.out)
        have hcO : wr.cell? ⟨gO, 0, none⟩ = some v := (jE HO1.out 0).trans rfl
        clear hk2
        cases b with
        | true =>
          have hrm : r = -1 := by
            rcases HA.out with ⟨_, h⟩ | ⟨h, _⟩
            · rw [List.drop_of_length_le (by omega), idxO] at h; exact (jM h).symm
            · cases h
          have HFT : Aside0 (fitS k cs l = true) := ⟨by rw [HF.out, hrm]; rfl⟩
          clear hrm
          go_wp2_with ((with_reducible refine gate_builtin (b := .append) (xs := #[.tmp 28, .tmp 30]) rfl ?_); at_builtin; refine Aside0.out ?_)
          refine jA ?_
          refine Kd.S_append (Kd.slice 3 (Kd.int .i64)) (w0 := w0) w0.heap.size rfl (.tmp 28) (.tmp 30) 63 24 (.slice none 0 0) 24 rfl Try.underlying63 info24 rfl (by decide) (by omega) v xs l [.slice A l.length c] (fun _ => True) (fun k => some k = (Value.slice A l.length c).ownBlock) rfl (by first | (go_simp; done) | (go_simp; rfl)) ?aP ?aK ?aF ?aO ?aB ?aS ?aL ?_
          (case aP => exact Kd.M_row (jW (Kd.R_tight rfl HRR.out) (fun _ h_ => h_)))
          (case aK => intro k hk; refine ⟨trivial, fun e => ?_⟩; obtain ⟨cs1, h1⟩ := Kd.R_typed HRR.out k hk.symm; obtain ⟨cs2, h2⟩ := Kd.S_typed HS1.out k e.symm; rw [h1] at h2; cases h2)
          (case aF => exact fun _ _ => trivial)
          (case aO => exact (Kd.S_mono HS1.out (fun k hk => ⟨trivial, hk⟩)))
          (case aB => exact HB1.out)
          (case aS => exact HB1.out.size)
          (case aL => have := HL.out; simp [hidL, HFT.out] at this; omega)
          intro v1 w1 ho hb hg hat
          obtain ⟨A1, c1, rfl⟩ := Kd.S_slice ho
          generalize hn1 : (xs ++ [l]).length = n1 at *
          have hne := Kd.S_ne HS1.out HO1.out (by decide)
          have hOg := js HO1.out hg hne
          have hcO1 : w1.cell? ⟨gO, 0, none⟩ = some v := (jE hOg 0).trans rfl
          have hfO1 := jF hOg 0
          have HO2 := jA (jp hOg 0 (.slice A1 n1 c1) (cs' := #[.slice A1 n1 c1]) rfl)
          have HS2 := jA (Kd.S_set ho hOg (by decide) 0 (.slice A1 n1 c1))
          have HK2 := jA (Kept.setCell (p := ⟨gO, 0, none⟩) (Kept.of_grown hg (Kept.of_below HBr.out (fun k => k = gO ∨ some k = v.ownBlock)) (fun k e => .inl (.inr e.symm))) (.inl (.inl rfl)) (.slice A1 n1 c1))
          have HB2 := jA (Below.setCell hb (p := ⟨gO, 0, none⟩) hbO (.slice A1 n1 c1))
          have HT2 : Aside0 (∀ k, (Value.slice A1 n1 c1).ownBlock = some k → v.ownBlock = some k ∨ w.heap.size ≤ k) := ⟨fun k e => by
            rcases hat with h | ⟨b, h, hb⟩
            · exact .inl (h ▸ e)
            · rw [h] at e; cases e; exact .inr (Nat.le_trans HBr.out.size hb)⟩
          have HX2 : Aside0 ((xs ++ [l]) ++ (hidR d l (fromOf l)).filter (fitS k cs) = xs ++ (hidL (d + 1) l (fromOf l)).filter (fitS k cs)) := ⟨by
            show _ = xs ++ (l :: hidR d l (fromOf l)).filter (fitS k cs)
            rw [List.filter_cons, HFT.out, if_pos rfl, List.append_assoc]; rfl⟩
          have HSO2 : Aside0 (∀ l' ∈ hidR d l (fromOf l), (badS k cs l').isSome = true) := ⟨fun l' h' => HSO.out l' (List.mem_cons_of_mem _ h')⟩
          have HRr := jA (Kd.R_reads' (Kd.R_kept (Kd.R_tight rfl HR.out) HK2.out (fun k hk h => by
            obtain ⟨cs1, h1⟩ := Kd.R_typed HR.out k hk.symm
            rcases h with rfl | h
            · rw [HO.out] at h1; cases h1
            · obtain ⟨cs2, h2⟩ := Kd.S_typed HS.out k h.symm; rw [h1] at h2; cases h2)))
          clear hb ho hg hat hcO hOg HA HF HFT HO1 HS1 HRR HB1
          by_cases hpos : 0 < (l.length : Int)
          · obtain ⟨ad, e1, hx⟩ := Kd.at_int HRr.out.2.2 ((l.length : Int) - 1) (by omega) (by omega)
            cases e1
            have HNIL := jA (rfl : fromOf l = fromOf l)
            rw [fromOf_rd l (by omega), show ((l.length : Int) - 1).toNat = l.length - 1 by omega] at hx
            have hp0 := jK hpos
            have hp1' := eq_true hpos
            go_wp2
            clear hp0 hp1' hx hpos
            go_loopg [10] 6 (fun gg v10 w' => ∃ (q : Int) (v' : Value) (xs' : List (List Int)), v10 = .int .i64 q ∧ Aside0 (1 ≤ q ∧ q ≤ 7 ∧ (7 - q).toNat ≤ gg) ∧ Aside0 (w'.heap[gO]? = some (.cells #[v'] 63 (0, 0))) ∧ Aside0 (Kd.S (Kd.slice 3 (Kd.int .i64)) 24 w' w0.heap.size (fun _ => True) v' xs') ∧ Aside0 (Kept w w' (fun k => k = gO ∨ some k = v.ownBlock)) ∧ Aside0 (∀ k, v'.ownBlock = some k → v.ownBlock = some k ∨ w.heap.size ≤ k) ∧ Aside0 (Below w0.heap.size w0 w') ∧ Aside0 (xs' ++ (hidR d l q).filter (fitS k cs) = xs ++ (hidL (d + 1) l (fromOf l)).filter (fitS k cs)) ∧ Aside0 (∀ l' ∈ hidR d l q, (badS k cs l').isSome = true))
            case atStart => exact ⟨fromOf l, _, (xs ++ [l]), (by first | rfl | (rw [HNIL.out])), ⟨hp1, by omega, by omega⟩, HO2, HS2, HK2, HT2, HB2, HX2, HSO2⟩
            case round =>
              clear HO2 HS2 HK2 HT2 HB2 HX2 HSO2
              obtain ⟨q, v', xs', rfl, HQ, HO', HS', HK', HT', HB', HX, HSO'⟩ := hrel
              have ⟨hq1, hq7, hqg⟩ := HQ.out
              by_cases hq : q ≤ 6
              · have hq0 := jK hq
                have HRw := jA (Kd.R_reads' (Kd.R_kept (Kd.R_tight rfl HR.out) HK'.out (fun k hk h => by
                  obtain ⟨cs1, h1⟩ := Kd.R_typed HR.out k hk.symm
                  rcases h with rfl | h
                  · rw [HO.out] at h1; cases h1
                  · obtain ⟨cs2, h2⟩ := Kd.S_typed HS.out k h.symm; rw [h1] at h2; cases h2)))
                have hl4 : l.length ≤ 4 := by omega
                have hle4 : (l ++ [q]).length + d = 4 := by simp; omega
                have hX : (xs' ++ (hidL d (l ++ [q]) q).filter (fitS k cs)) ++ (hidR d l (q + 1)).filter (fitS k cs) = xs ++ (hidL (d + 1) l (fromOf l)).filter (fitS k cs) := by have e := HX.out; rw [hidR_step d l q hq, List.filter_append] at e; rw [List.append_assoc]; exact e
                have hXl : (xs' ++ (hidL d (l ++ [q]) q).filter (fitS k cs)).length ≤ 1000000 := by have e := HL.out; rw [← hX, List.length_append] at e; omega
                have hsn := fromOf_snoc l q
                have hs1 : ∀ l' ∈ hidL d (l ++ [q]) (fromOf (l ++ [q])), (badS k cs l').isSome = true := by rw [hsn]; intro l' h'; exact HSO'.out l' (by rw [hidR_step d l q hq]; exact List.mem_append_left _ h')
                have hs2 : ∀ l' ∈ hidR d l (q + 1), (badS k cs l').isSome = true := fun l' h' => HSO'.out l' (by rw [hidR_step d l q hq]; exact List.mem_append_right _ h')
                have HX' := jA hX
                have HXl := jA hXl
                have HLE := jA hle4
                have HSN := jA hsn
                have HS1' := jA hs1
                have HS2' := jA hs2
                clear hX hXl hle4 HX hsn hs1 hs2
                go_wp2_with (first
                  | (go_at_call 175; refine (spec_l1Own.calls _ c l l _ HRw.out.2.2 HRw.out.2.1 (by unfold spec_l1Own.f; show (if ([] : List Int).length + l.length < 17592186044416 then some ([] ++ l) else none) = some l; rw [if_pos (by simp; omega), List.nil_append])).mono ?_; rintro e w3 ⟨v3, rfl, ho3, hb3⟩; have HB3 := jA hb3; have HO3 := jA ho3; clear ho3 hb3)
                  | ((with_reducible refine gate_builtin (b := .append) (xs := #[.tmp 52, .tmp 54]) rfl ?_); at_builtin; refine Kd.R_append_rows (Kd.int .i64) (w0 := wr) wr.heap.size rfl (.tmp 52) (.tmp 54) 24 3 (.int .i64 0) 8 rfl Try.underlying24 info3 rfl (by decide) (by omega) v3 l [q] _ _ _ (fun _ => True) (fun _ => False) rfl rfl ?aO ?aR (fun _ _ h => h) (fun _ h => h.elim) (fun _ _ => trivial) ?aB ?aS ?aL ?_; (case aO => exact Kd.R_alloc HO3.out _); (case aR => exact C_one ((jE (blk_new w3 _) 0).trans rfl)); (case aB => exact jP HB3.out _); (case aS => have := HB3.out.size; first | omega | (simp; omega)); (case aL => omega); intro v4 w4 ho4 hb4 hg4 hat4; obtain ⟨A4, c4, rfl⟩ := jq ho4; have HO4 := jA ho4; have HB4 := jA hb4; clear ho4 hb4 hg4 hat4; have ih4 := IH.out A4 c4 (l ++ [q]) v' xs' w4 HLE.out HS1'.out (by rw [HSN.out]; omega) (by rw [HSN.out]; omega) (by rw [HSN.out]; exact HXl.out) (jN HO'.out HB4.out) (below_then HB'.out HB'.out.size HB4.out) (Kd.S_mono (Kd.S_elder' HS'.out (Kd.R_base HO4.out) HB4.out) (fun k hk => hk.2)) (jf HO4.out HB'.out.size); rw [HSN.out, show (l ++ [q]).length = l.length + 1 from by simp] at ih4; have IHQ := jA ih4; clear ih4)
                  | (go_at_call 314; refine IHQ.out.mono ?_; rintro e w5 ⟨rfl, v5, hO5, hS5, hK5, hT5, hB5⟩; have HO5 := jA hO5; have HS5 := jA hS5; have HK5 := jA hK5; have HT5 := jA hT5; have HB5 := jA hB5; clear hO5 hS5 hK5 hT5 hB5))
                go_roundg (gk - 1)
                case measure => have := HQ.out; omega
                case rel =>
                  refine ⟨q + 1, v5, _, (by first | rfl | rw [show wrap64 (q + 1) = q + 1 by unfold wrap64; omega]), ⟨by omega, by omega, by omega⟩, HO5, HS5, ⟨?_⟩, ⟨?_⟩, HB5, HX', HS2'⟩
                  · exact (HK'.out.below HB4.out).then_ HK5.out (fun k hk => by
                      rcases hk with hk | hk
                      · exact .inl (.inl hk)
                      · rcases HT'.out k hk.symm with h | h
                        · exact .inl (.inr h.symm)
                        · exact .inr h)
                  · intro k hk
                    rcases HT5.out k hk with h | h
                    · exact HT'.out k h
                    · exact .inr (Nat.le_trans (Nat.le_trans HK'.out.1 HB4.out.size) h)
              · have hq0 := jV hq
                go_wp2
                refine bodyPost_end (results_none rfl _ _ _) rfl ⟨rfl, v', HO'.out, ?_, HK'.out, HT'.out, HB'.out⟩
                have e := HX.out
                rw [hidR_end _ _ _ (by omega), List.filter_nil, List.append_nil] at e
                rw [← e]; exact HS'.out
          · have hp0 := jV hpos
            have hp1' := eq_false hpos
            have HNIL : Aside0 (fromOf l = 1) := ⟨by have e : l = [] := List.length_eq_zero_iff.1 (by omega); rw [e]; rfl⟩
            go_wp2
            clear hp0 hp1' hpos
            go_loopg [10] 6 (fun gg v10 w' => ∃ (q : Int) (v' : Value) (xs' : List (List Int)), v10 = .int .i64 q ∧ Aside0 (1 ≤ q ∧ q ≤ 7 ∧ (7 - q).toNat ≤ gg) ∧ Aside0 (w'.heap[gO]? = some (.cells #[v'] 63 (0, 0))) ∧ Aside0 (Kd.S (Kd.slice 3 (Kd.int .i64)) 24 w' w0.heap.size (fun _ => True) v' xs') ∧ Aside0 (Kept w w' (fun k => k = gO ∨ some k = v.ownBlock)) ∧ Aside0 (∀ k, v'.ownBlock = some k → v.ownBlock = some k ∨ w.heap.size ≤ k) ∧ Aside0 (Below w0.heap.size w0 w') ∧ Aside0 (xs' ++ (hidR d l q).filter (fitS k cs) = xs ++ (hidL (d + 1) l (fromOf l)).filter (fitS k cs)) ∧ Aside0 (∀ l' ∈ hidR d l q, (badS k cs l').isSome = true))
            case atStart => exact ⟨fromOf l, _, (xs ++ [l]), (by first | rfl | (rw [HNIL.out])), ⟨hp1, by omega, by omega⟩, HO2, HS2, HK2, HT2, HB2, HX2, HSO2⟩
            case round =>
              clear HO2 HS2 HK2 HT2 HB2 HX2 HSO2
              obtain ⟨q, v', xs', rfl, HQ, HO', HS', HK', HT', HB', HX, HSO'⟩ := hrel
              have ⟨hq1, hq7, hqg⟩ := HQ.out
              by_cases hq : q ≤ 6
              · have hq0 := jK hq
                have HRw := jA (Kd.R_reads' (Kd.R_kept (Kd.R_tight rfl HR.out) HK'.out (fun k hk h => by
                  obtain ⟨cs1, h1⟩ := Kd.R_typed HR.out k hk.symm
                  rcases h with rfl | h
                  · rw [HO.out] at h1; cases h1
                  · obtain ⟨cs2, h2⟩ := Kd.S_typed HS.out k h.symm; rw [h1] at h2; cases h2)))
                have hl4 : l.length ≤ 4 := by omega
                have hle4 : (l ++ [q]).length + d = 4 := by simp; omega
                have hX : (xs' ++ (hidL d (l ++ [q]) q).filter (fitS k cs)) ++ (hidR d l (q + 1)).filter (fitS k cs) = xs ++ (hidL (d + 1) l (fromOf l)).filter (fitS k cs) := by have e := HX.out; rw [hidR_step d l q hq, List.filter_append] at e; rw [List.append_assoc]; exact e
                have hXl : (xs' ++ (hidL d (l ++ [q]) q).filter (fitS k cs)).length ≤ 1000000 := by have e := HL.out; rw [← hX, List.length_append] at e; omega
                have hsn := fromOf_snoc l q
                have hs1 : ∀ l' ∈ hidL d (l ++ [q]) (fromOf (l ++ [q])), (badS k cs l').isSome = true := by rw [hsn]; intro l' h'; exact HSO'.out l' (by rw [hidR_step d l q hq]; exact List.mem_append_left _ h')
                have hs2 : ∀ l' ∈ hidR d l (q + 1), (badS k cs l').isSome = true := fun l' h' => HSO'.out l' (by rw [hidR_step d l q hq]; exact List.mem_append_right _ h')
                have HX' := jA hX
                have HXl := jA hXl
                have HLE := jA hle4
                have HSN := jA hsn
                have HS1' := jA hs1
                have HS2' := jA hs2
                clear hX hXl hle4 HX hsn hs1 hs2
                go_wp2_with (first
                  | (go_at_call 175; refine (spec_l1Own.calls _ c l l _ HRw.out.2.2 HRw.out.2.1 (by unfold spec_l1Own.f; show (if ([] : List Int).length + l.length < 17592186044416 then some ([] ++ l) else none) = some l; rw [if_pos (by simp; omega), List.nil_append])).mono ?_; rintro e w3 ⟨v3, rfl, ho3, hb3⟩; have HB3 := jA hb3; have HO3 := jA ho3; clear ho3 hb3)
                  | ((with_reducible refine gate_builtin (b := .append) (xs := #[.tmp 52, .tmp 54]) rfl ?_); at_builtin; refine Kd.R_append_rows (Kd.int .i64) (w0 := wr) wr.heap.size rfl (.tmp 52) (.tmp 54) 24 3 (.int .i64 0) 8 rfl Try.underlying24 info3 rfl (by decide) (by omega) v3 l [q] _ _ _ (fun _ => True) (fun _ => False) rfl rfl ?aO ?aR (fun _ _ h => h) (fun _ h => h.elim) (fun _ _ => trivial) ?aB ?aS ?aL ?_; (case aO => exact Kd.R_alloc HO3.out _); (case aR => exact C_one ((jE (blk_new w3 _) 0).trans rfl)); (case aB => exact jP HB3.out _); (case aS => have := HB3.out.size; first | omega | (simp; omega)); (case aL => omega); intro v4 w4 ho4 hb4 hg4 hat4; obtain ⟨A4, c4, rfl⟩ := jq ho4; have HO4 := jA ho4; have HB4 := jA hb4; clear ho4 hb4 hg4 hat4; have ih4 := IH.out A4 c4 (l ++ [q]) v' xs' w4 HLE.out HS1'.out (by rw [HSN.out]; omega) (by rw [HSN.out]; omega) (by rw [HSN.out]; exact HXl.out) (jN HO'.out HB4.out) (below_then HB'.out HB'.out.size HB4.out) (Kd.S_mono (Kd.S_elder' HS'.out (Kd.R_base HO4.out) HB4.out) (fun k hk => hk.2)) (jf HO4.out HB'.out.size); rw [HSN.out, show (l ++ [q]).length = l.length + 1 from by simp] at ih4; have IHQ := jA ih4; clear ih4)
                  | (go_at_call 314; refine IHQ.out.mono ?_; rintro e w5 ⟨rfl, v5, hO5, hS5, hK5, hT5, hB5⟩; have HO5 := jA hO5; have HS5 := jA hS5; have HK5 := jA hK5; have HT5 := jA hT5; have HB5 := jA hB5; clear hO5 hS5 hK5 hT5 hB5))
                go_roundg (gk - 1)
                case measure => have := HQ.out; omega
                case rel =>
                  refine ⟨q + 1, v5, _, (by first | rfl | rw [show wrap64 (q + 1) = q + 1 by unfold wrap64; omega]), ⟨by omega, by omega, by omega⟩, HO5, HS5, ⟨?_⟩, ⟨?_⟩, HB5, HX', HS2'⟩
                  · exact (HK'.out.below HB4.out).then_ HK5.out (fun k hk => by
                      rcases hk with hk | hk
                      · exact .inl (.inl hk)
                      · rcases HT'.out k hk.symm with h | h
                        · exact .inl (.inr h.symm)
                        · exact .inr h)
                  · intro k hk
                    rcases HT5.out k hk with h | h
                    · exact HT'.out k h
                    · exact .inr (Nat.le_trans (Nat.le_trans HK'.out.1 HB4.out.size) h)
              · have hq0 := jV hq
                go_wp2
                refine bodyPost_end (results_none rfl _ _ _) rfl ⟨rfl, v', HO'.out, ?_, HK'.out, HT'.out, HB'.out⟩
                have e := HX.out
                rw [hidR_end _ _ _ (by omega), List.filter_nil, List.append_nil] at e
                rw [← e]; exact HS'.out
        | false =>
          have h0r : 0 ≤ r := by rcases HA.out with ⟨h, _⟩ | ⟨_, h⟩; cases h; exact h
          have HFT : Aside0 (fitS k cs l = false) := ⟨by rw [HF.out, jK h0r]; rfl⟩
          clear h0r
          have HO2 := HO1
          have HS2 := jA (Kd.S_mono (ok' := fun _ => True) HS1.out (fun _ _ => trivial))
          have HK2 := jA (Kept.of_below HBr.out (fun k => k = gO ∨ some k = v.ownBlock))
          have HB2 := HB1
          have HT2 : Aside0 (∀ k, v.ownBlock = some k → v.ownBlock = some k ∨ w.heap.size ≤ k) := ⟨fun k e => .inl e⟩
          have HX2 : Aside0 (xs ++ (hidR d l (fromOf l)).filter (fitS k cs) = xs ++ (hidL (d + 1) l (fromOf l)).filter (fitS k cs)) := ⟨by
            show _ = xs ++ (l :: hidR d l (fromOf l)).filter (fitS k cs)
            rw [List.filter_cons, HFT.out, if_neg (by decide)]⟩
          have HSO2 : Aside0 (∀ l' ∈ hidR d l (fromOf l), (badS k cs l').isSome = true) := ⟨fun l' h' => HSO.out l' (List.mem_cons_of_mem _ h')⟩
          have HRr := jA (Kd.R_reads' HRR.out)
          clear hcO HA HF HFT HO1 HS1 HRR HB1
          by_cases hpos : 0 < (l.length : Int)
          · obtain ⟨ad, e1, hx⟩ := Kd.at_int HRr.out.2.2 ((l.length : Int) - 1) (by omega) (by omega)
            cases e1
            have HNIL := jA (rfl : fromOf l = fromOf l)
            rw [fromOf_rd l (by omega), show ((l.length : Int) - 1).toNat = l.length - 1 by omega] at hx
            have hp0 := jK hpos
            have hp1' := eq_true hpos
            go_wp2
            clear hp0 hp1' hx hpos
            go_loopg [10] 6 (fun gg v10 w' => ∃ (q : Int) (v' : Value) (xs' : List (List Int)), v10 = .int .i64 q ∧ Aside0 (1 ≤ q ∧ q ≤ 7 ∧ (7 - q).toNat ≤ gg) ∧ Aside0 (w'.heap[gO]? = some (.cells #[v'] 63 (0, 0))) ∧ Aside0 (Kd.S (Kd.slice 3 (Kd.int .i64)) 24 w' w0.heap.size (fun _ => True) v' xs') ∧ Aside0 (Kept w w' (fun k => k = gO ∨ some k = v.ownBlock)) ∧ Aside0 (∀ k, v'.ownBlock = some k → v.ownBlock = some k ∨ w.heap.size ≤ k) ∧ Aside0 (Below w0.heap.size w0 w') ∧ Aside0 (xs' ++ (hidR d l q).filter (fitS k cs) = xs ++ (hidL (d + 1) l (fromOf l)).filter (fitS k cs)) ∧ Aside0 (∀ l' ∈ hidR d l q, (badS k cs l').isSome = true))
            case atStart => exact ⟨fromOf l, _, xs, (by first | rfl | (rw [HNIL.out])), ⟨hp1, by omega, by omega⟩, HO2, HS2, HK2, HT2, HB2, HX2, HSO2⟩
            case round =>
              clear HO2 HS2 HK2 HT2 HB2 HX2 HSO2
              obtain ⟨q, v', xs', rfl, HQ, HO', HS', HK', HT', HB', HX, HSO'⟩ := hrel
              have ⟨hq1, hq7, hqg⟩ := HQ.out
              by_cases hq : q ≤ 6
              · have hq0 := jK hq
                have HRw := jA (Kd.R_reads' (Kd.R_kept (Kd.R_tight rfl HR.out) HK'.out (fun k hk h => by
                  obtain ⟨cs1, h1⟩ := Kd.R_typed HR.out k hk.symm
                  rcases h with rfl | h
                  · rw [HO.out] at h1; cases h1
                  · obtain ⟨cs2, h2⟩ := Kd.S_typed HS.out k h.symm; rw [h1] at h2; cases h2)))
                have hl4 : l.length ≤ 4 := by omega
                have hle4 : (l ++ [q]).length + d = 4 := by simp; omega
                have hX : (xs' ++ (hidL d (l ++ [q]) q).filter (fitS k cs)) ++ (hidR d l (q + 1)).filter (fitS k cs) = xs ++ (hidL (d + 1) l (fromOf l)).filter (fitS k cs) := by have e := HX.out; rw [hidR_step d l q hq, List.filter_append] at e; rw [List.append_assoc]; exact e
                have hXl : (xs' ++ (hidL d (l ++ [q]) q).filter (fitS k cs)).length ≤ 1000000 := by have e := HL.out; rw [← hX, List.length_append] at e; omega
                have hsn := fromOf_snoc l q
                have hs1 : ∀ l' ∈ hidL d (l ++ [q]) (fromOf (l ++ [q])), (badS k cs l').isSome = true := by rw [hsn]; intro l' h'; exact HSO'.out l' (by rw [hidR_step d l q hq]; exact List.mem_append_left _ h')
                have hs2 : ∀ l' ∈ hidR d l (q + 1), (badS k cs l').isSome = true := fun l' h' => HSO'.out l' (by rw [hidR_step d l q hq]; exact List.mem_append_right _ h')
                have HX' := jA hX
                have HXl := jA hXl
                have HLE := jA hle4
                have HSN := jA hsn
                have HS1' := jA hs1
                have HS2' := jA hs2
                clear hX hXl hle4 HX hsn hs1 hs2
                go_wp2_with (first
                  | (go_at_call 175; refine (spec_l1Own.calls _ c l l _ HRw.out.2.2 HRw.out.2.1 (by unfold spec_l1Own.f; show (if ([] : List Int).length + l.length < 17592186044416 then some ([] ++ l) else none) = some l; rw [if_pos (by simp; omega), List.nil_append])).mono ?_; rintro e w3 ⟨v3, rfl, ho3, hb3⟩; have HB3 := jA hb3; have HO3 := jA ho3; clear ho3 hb3)
                  | ((with_reducible refine gate_builtin (b := .append) (xs := #[.tmp 52, .tmp 54]) rfl ?_); at_builtin; refine Kd.R_append_rows (Kd.int .i64) (w0 := wr) wr.heap.size rfl (.tmp 52) (.tmp 54) 24 3 (.int .i64 0) 8 rfl Try.underlying24 info3 rfl (by decide) (by omega) v3 l [q] _ _ _ (fun _ => True) (fun _ => False) rfl rfl ?aO ?aR (fun _ _ h => h) (fun _ h => h.elim) (fun _ _ => trivial) ?aB ?aS ?aL ?_; (case aO => exact Kd.R_alloc HO3.out _); (case aR => exact C_one ((jE (blk_new w3 _) 0).trans rfl)); (case aB => exact jP HB3.out _); (case aS => have := HB3.out.size; first | omega | (simp; omega)); (case aL => omega); intro v4 w4 ho4 hb4 hg4 hat4; obtain ⟨A4, c4, rfl⟩ := jq ho4; have HO4 := jA ho4; have HB4 := jA hb4; clear ho4 hb4 hg4 hat4; have ih4 := IH.out A4 c4 (l ++ [q]) v' xs' w4 HLE.out HS1'.out (by rw [HSN.out]; omega) (by rw [HSN.out]; omega) (by rw [HSN.out]; exact HXl.out) (jN HO'.out HB4.out) (below_then HB'.out HB'.out.size HB4.out) (Kd.S_mono (Kd.S_elder' HS'.out (Kd.R_base HO4.out) HB4.out) (fun k hk => hk.2)) (jf HO4.out HB'.out.size); rw [HSN.out, show (l ++ [q]).length = l.length + 1 from by simp] at ih4; have IHQ := jA ih4; clear ih4)
                  | (go_at_call 314; refine IHQ.out.mono ?_; rintro e w5 ⟨rfl, v5, hO5, hS5, hK5, hT5, hB5⟩; have HO5 := jA hO5; have HS5 := jA hS5; have HK5 := jA hK5; have HT5 := jA hT5; have HB5 := jA hB5; clear hO5 hS5 hK5 hT5 hB5))
                go_roundg (gk - 1)
                case measure => have := HQ.out; omega
                case rel =>
                  refine ⟨q + 1, v5, _, (by first | rfl | rw [show wrap64 (q + 1) = q + 1 by unfold wrap64; omega]), ⟨by omega, by omega, by omega⟩, HO5, HS5, ⟨?_⟩, ⟨?_⟩, HB5, HX', HS2'⟩
                  · exact (HK'.out.below HB4.out).then_ HK5.out (fun k hk => by
                      rcases hk with hk | hk
                      · exact .inl (.inl hk)
                      · rcases HT'.out k hk.symm with h | h
                        · exact .inl (.inr h.symm)
                        · exact .inr h)
                  · intro k hk
                    rcases HT5.out k hk with h | h
                    · exact HT'.out k h
                    · exact .inr (Nat.le_trans (Nat.le_trans HK'.out.1 HB4.out.size) h)
              · have hq0 := jV hq
                go_wp2
                refine bodyPost_end (results_none rfl _ _ _) rfl ⟨rfl, v', HO'.out, ?_, HK'.out, HT'.out, HB'.out⟩
                have e := HX.out
                rw [hidR_end _ _ _ (by omega), List.filter_nil, List.append_nil] at e
                rw [← e]; exact HS'.out
          · have hp0 := jV hpos
            have hp1' := eq_false hpos
            have HNIL : Aside0 (fromOf l = 1) := ⟨by have e : l = [] := List.length_eq_zero_iff.1 (by omega); rw [e]; rfl⟩
            go_wp2
            clear hp0 hp1' hpos
            go_loopg [10] 6 (fun gg v10 w' => ∃ (q : Int) (v' : Value) (xs' : List (List Int)), v10 = .int .i64 q ∧ Aside0 (1 ≤ q ∧ q ≤ 7 ∧ (7 - q).toNat ≤ gg) ∧ Aside0 (w'.heap[gO]? = some (.cells #[v'] 63 (0, 0))) ∧ Aside0 (Kd.S (Kd.slice 3 (Kd.int .i64)) 24 w' w0.heap.size (fun _ => True) v' xs') ∧ Aside0 (Kept w w' (fun k => k = gO ∨ some k = v.ownBlock)) ∧ Aside0 (∀ k, v'.ownBlock = some k → v.ownBlock = some k ∨ w.heap.size ≤ k) ∧ Aside0 (Below w0.heap.size w0 w') ∧ Aside0 (xs' ++ (hidR d l q).filter (fitS k cs) = xs ++ (hidL (d + 1) l (fromOf l)).filter (fitS k cs)) ∧ Aside0 (∀ l' ∈ hidR d l q, (badS k cs l').isSome = true))
            case atStart => exact ⟨fromOf l, _, xs, (by first | rfl | (rw [HNIL.out])), ⟨hp1, by omega, by omega⟩, HO2, HS2, HK2, HT2, HB2, HX2, HSO2⟩
            case round =>
              clear HO2 HS2 HK2 HT2 HB2 HX2 HSO2
              obtain ⟨q, v', xs', rfl, HQ, HO', HS', HK', HT', HB', HX, HSO'⟩ := hrel
              have ⟨hq1, hq7, hqg⟩ := HQ.out
              by_cases hq : q ≤ 6
              · have hq0 := jK hq
                have HRw := jA (Kd.R_reads' (Kd.R_kept (Kd.R_tight rfl HR.out) HK'.out (fun k hk h => by
                  obtain ⟨cs1, h1⟩ := Kd.R_typed HR.out k hk.symm
                  rcases h with rfl | h
                  · rw [HO.out] at h1; cases h1
                  · obtain ⟨cs2, h2⟩ := Kd.S_typed HS.out k h.symm; rw [h1] at h2; cases h2)))
                have hl4 : l.length ≤ 4 := by omega
                have hle4 : (l ++ [q]).length + d = 4 := by simp; omega
                have hX : (xs' ++ (hidL d (l ++ [q]) q).filter (fitS k cs)) ++ (hidR d l (q + 1)).filter (fitS k cs) = xs ++ (hidL (d + 1) l (fromOf l)).filter (fitS k cs) := by have e := HX.out; rw [hidR_step d l q hq, List.filter_append] at e; rw [List.append_assoc]; exact e
                have hXl : (xs' ++ (hidL d (l ++ [q]) q).filter (fitS k cs)).length ≤ 1000000 := by have e := HL.out; rw [← hX, List.length_append] at e; omega
                have hsn := fromOf_snoc l q
                have hs1 : ∀ l' ∈ hidL d (l ++ [q]) (fromOf (l ++ [q])), (badS k cs l').isSome = true := by rw [hsn]; intro l' h'; exact HSO'.out l' (by rw [hidR_step d l q hq]; exact List.mem_append_left _ h')
                have hs2 : ∀ l' ∈ hidR d l (q + 1), (badS k cs l').isSome = true := fun l' h' => HSO'.out l' (by rw [hidR_step d l q hq]; exact List.mem_append_right _ h')
                have HX' := jA hX
                have HXl := jA hXl
                have HLE := jA hle4
                have HSN := jA hsn
                have HS1' := jA hs1
                have HS2' := jA hs2
                clear hX hXl hle4 HX hsn hs1 hs2
                go_wp2_with (first
                  | (go_at_call 175; refine (spec_l1Own.calls _ c l l _ HRw.out.2.2 HRw.out.2.1 (by unfold spec_l1Own.f; show (if ([] : List Int).length + l.length < 17592186044416 then some ([] ++ l) else none) = some l; rw [if_pos (by simp; omega), List.nil_append])).mono ?_; rintro e w3 ⟨v3, rfl, ho3, hb3⟩; have HB3 := jA hb3; have HO3 := jA ho3; clear ho3 hb3)
                  | ((with_reducible refine gate_builtin (b := .append) (xs := #[.tmp 52, .tmp 54]) rfl ?_); at_builtin; refine Kd.R_append_rows (Kd.int .i64) (w0 := wr) wr.heap.size rfl (.tmp 52) (.tmp 54) 24 3 (.int .i64 0) 8 rfl Try.underlying24 info3 rfl (by decide) (by omega) v3 l [q] _ _ _ (fun _ => True) (fun _ => False) rfl rfl ?aO ?aR (fun _ _ h => h) (fun _ h => h.elim) (fun _ _ => trivial) ?aB ?aS ?aL ?_; (case aO => exact Kd.R_alloc HO3.out _); (case aR => exact C_one ((jE (blk_new w3 _) 0).trans rfl)); (case aB => exact jP HB3.out _); (case aS => have := HB3.out.size; first | omega | (simp; omega)); (case aL => omega); intro v4 w4 ho4 hb4 hg4 hat4; obtain ⟨A4, c4, rfl⟩ := jq ho4; have HO4 := jA ho4; have HB4 := jA hb4; clear ho4 hb4 hg4 hat4; have ih4 := IH.out A4 c4 (l ++ [q]) v' xs' w4 HLE.out HS1'.out (by rw [HSN.out]; omega) (by rw [HSN.out]; omega) (by rw [HSN.out]; exact HXl.out) (jN HO'.out HB4.out) (below_then HB'.out HB'.out.size HB4.out) (Kd.S_mono (Kd.S_elder' HS'.out (Kd.R_base HO4.out) HB4.out) (fun k hk => hk.2)) (jf HO4.out HB'.out.size); rw [HSN.out, show (l ++ [q]).length = l.length + 1 from by simp] at ih4; have IHQ := jA ih4; clear ih4)
                  | (go_at_call 314; refine IHQ.out.mono ?_; rintro e w5 ⟨rfl, v5, hO5, hS5, hK5, hT5, hB5⟩; have HO5 := jA hO5; have HS5 := jA hS5; have HK5 := jA hK5; have HT5 := jA hT5; have HB5 := jA hB5; clear hO5 hS5 hK5 hT5 hB5))
                go_roundg (gk - 1)
                case measure => have := HQ.out; omega
                case rel =>
                  refine ⟨q + 1, v5, _, (by first | rfl | rw [show wrap64 (q + 1) = q + 1 by unfold wrap64; omega]), ⟨by omega, by omega, by omega⟩, HO5, HS5, ⟨?_⟩, ⟨?_⟩, HB5, HX', HS2'⟩
                  · exact (HK'.out.below HB4.out).then_ HK5.out (fun k hk => by
                      rcases hk with hk | hk
                      · exact .inl (.inl hk)
                      · rcases HT'.out k hk.symm with h | h
                        · exact .inl (.inr h.symm)
                        · exact .inr h)
                  · intro k hk
                    rcases HT5.out k hk with h | h
                    · exact HT'.out k h
                    · exact .inr (Nat.le_trans (Nat.le_trans HK'.out.1 HB4.out.size) h)
              · have hq0 := jV hq
                go_wp2
                refine bodyPost_end (results_none rfl _ _ _) rfl ⟨rfl, v', HO'.out, ?_, HK'.out, HT'.out, HB'.out⟩
                have e := HX.out
                rw [hidR_end _ _ _ (by omega), List.filter_nil, List.append_nil] at e
                rw [← e]; exact HS'.out


/-! ### spec_pzAll: function 294 -/
-- GIVEN loop.example/g01305/spec.pzAll rounds=1
/-- Those of the hidden pieces that fit all clues, if that can be told of each. -/
def spec_pzAll.f (k : Nat) (cs : List S58) : Option (List (List Int)) := if (hidL 4 [] 1).all (fun l => (badS k cs l).isSome) = true then some ((hidL 4 [] 1).filter (fitS k cs)) else none
set_option maxHeartbeats 4000000 in
theorem spec_pzAll.calls (k : Nat) (A0 : Option Addr) (c0 : Nat) (l0 : List S58) (r : List (List Int)) (w : World) (hr0 : Kd.C k58 w A0 l0.length l0) (hc0 : l0.length ≤ c0) (h : spec_pzAll.f k l0 = some r) :
    Calls Try.prog 294 #[.slice A0 l0.length c0] w fun e w' => ∃ v0_ : Value, e = .returned (v0_) ∧ Kd.S (Kd.slice 3 (Kd.int .i64)) 24 w' w.heap.size (fun _ => True) v0_ r ∧ Below w.heap.size w w' := by
  unfold spec_pzAll.f at h
  by_cases c : (hidL 4 [] 1).all (fun l => (badS k l0 l).isSome) = true
  · rw [if_pos c] at h
    obtain rfl := jM h
    have hL := pzLook_calls k A0 c0 l0 w.heap.size w (jX _) hr0 hc0 4 none 0 [] (.slice none 0 0) [] (w.alloc (.cells #[.slice none 0 0] 63)) rfl (fun l' hl => List.all_eq_true.1 c l' hl) (by decide) (by decide)
      (by
        refine Nat.le_trans (List.length_filter_le _ _) ?_
        exact (Nat.le_of_ble_eq_true (by kernel_rfl) : (hidL 4 [] 1).length ≤ 1000000))
      (blk_new w _) (jP (jU _ _) _) (Kd.S_nil _ _ _ _ _) (Kd.R_nil _ _ _ _ _)
    have HL := jA hL
    clear hL h c hr0
    go_enter Try.func294, Try.ntmps294
    go_wp2_with (go_at_call 314; refine HL.out.mono ?_; rintro e w2 ⟨rfl, v2, hO2, hS2, hK2, hT2, hB2⟩; have hcO2 : w2.cell? ⟨w.heap.size, 0, none⟩ = some v2 := (jE hO2 0).trans rfl)
    go_ret
    exact ⟨_, rfl, hS2, hB2⟩
  · rw [if_neg c] at h; cases h


/-! ### spec_pzSolved: function 227 -/
def spec_pzSolved.f (k : Nat) (l0 : List (S58)) : Option (Bool) := (spec_pzAll.f k l0).bind fun t471 => (some ((t471.length : Int) == 1))
theorem spec_pzSolved.calls (k : Nat) (A0 : Option Addr) (c0 : Nat) (l0 : List (S58)) (r : Bool) (w : World) (hr0 : Kd.C k58 w A0 l0.length l0) (hc0 : l0.length ≤ c0) (h : spec_pzSolved.f k l0 = some r) :
 Calls Try.prog 227 #[.slice A0 l0.length c0] w fun e w' => e = .returned (.bool r) ∧ Below w.heap.size w w' := by
 have HR0 := jA hr0
 have HC0 := jA hc0
 clear hr0 hc0
 have HB := jA (jU w.heap.size w)
 have H := h; unfold spec_pzSolved.f at H
 clear h
 replace H := jD H
 obtain ⟨t471, A20, H⟩ := H
 have A2 := jA A20
 clear A20
 obtain rfl := jM H
 go_enter Try.func227, Try.ntmps227
 go_wp2_with (first | (refine Gl 4 #[.slice A0 l0.length c0] Try.func294 ?_; (with_reducible refine (spec_pzAll.calls k _ _ l0 t471 _ (Cm HR0.out) HC0.out A2.out).mono ?_); rintro e w3 ⟨v472, rfl, ho0, hb⟩; refine ⟨_, rfl, ?_⟩; have HO473 := jA (Kd.S_lower ho0 (jL Ub)); replace HB := jA (jB Ub hb); clear hb ho0; obtain ⟨Ao4, co4, eo4⟩ := Kd.S_slice HO473.out; subst eo4))
 go_ret
 exact ⟨Re, Ub⟩

end Go.Proofs.Ytgeoihhibglhgaa.PFnPiecesHidden
