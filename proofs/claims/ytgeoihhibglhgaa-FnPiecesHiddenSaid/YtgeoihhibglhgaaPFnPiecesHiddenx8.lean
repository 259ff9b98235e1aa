-- printed by wip/xp
import Derived.Test.YtgeoihhibglhgaaPFnPiecesHiddenx0
import Derived.Test.YtgeoihhibglhgaaPFnPiecesHiddenx1
import Derived.Test.YtgeoihhibglhgaaPFnPiecesHiddenx5
import Derived.Test.YtgeoihhibglhgaaPFnPiecesHiddenx6
import Derived.Test.YtgeoihhibglhgaaPFnPiecesHiddenx7
set_option maxHeartbeats 8000000
set_option maxRecDepth 100000
namespace Go.Proofs.Ytgeoihhibglhgaa.PFnPiecesHidden
open Go.RowKit Go.Proofs.YtgeoihhibglhgaaW.PrintWords Go.Proofs.YtgeoihhibglhgaaW.PrintLast Go.Proofs.YtgeoihhibglhgaaW.PrintMore Go.Proofs.Ytgeoihhibglhgaa.Xmv
attribute [local go_sem] max2_int min2_int max_two min_two max_three min_three max_four min_four
set_option linter.unusedVariables false
set_option linter.unusedSimpArgs false

attribute [local go_sem high] eqA58
/-! ### spec_MakePuzzle: function 79 -/
mutual
def spec_MakePuzzle.j0 : Nat → List Int → Int → Int → Bool → Option ((List (S58)) × Bool)
 | 0, _, _, _, _ => none
 | k + 1, x0, x1, x2, x24 => if x24 = true then (some (([] : List (S58)), false)) else (spec_MakePuzzle.l0 k x0 x1 x2 ([] : List (S58)))
def spec_MakePuzzle.l0 : Nat → List Int → Int → Int → List (S58) → Option ((List (S58)) × Bool)
 | 0, _, _, _, _ => none
 | k + 1, x0, x1, x9, x284000 => if x1 > 0 then ((spec_pzNext.f x9).bind fun t284 => ((spec_pzNext.f t284).bind fun t285 => (if (Int.tmod t284 6) = 5 then ((spec_pzOf.f k (Int.tmod t284 6) (wrap64 ((Int.tmod t285 6) + 1)) x0).bind fun bt286 => (if x284000.length < 5864062014805 then (spec_MakePuzzle.l0 k x0 (wrap64 (x1 - 1)) t285 (x284000 ++ [(⟨bt286.1, bt286.2.1, bt286.2.2⟩ : S58)])) else (none))) else ((spec_pzOf.f k (Int.tmod t284 6) (Int.tmod t285 25) x0).bind fun bt292 => (if x284000.length < 5864062014805 then (spec_MakePuzzle.l0 k x0 (wrap64 (x1 - 1)) t285 (x284000 ++ [(⟨bt292.1, bt292.2.1, bt292.2.2⟩ : S58)])) else (none)))))) else (some (x284000, true))
end
def spec_MakePuzzle.f (k : Nat) (l0 : List Int) (a1 : Int) (a2 : Int) : Option ((List (S58)) × Bool) := (spec_pzHidden.f k l0).bind fun t280 => (if t280 = true then ((spec_l1In.f a1 0 6).bind fun t281 => (if t281 = true then ((spec_l1In.f a2 0 9999).bind fun t282 => (spec_MakePuzzle.j0 k l0 a1 a2 (!t282))) else (spec_MakePuzzle.j0 k l0 a1 a2 true))) else (spec_MakePuzzle.j0 k l0 a1 a2 true))
def spec_MakePuzzle.T13 : Bool × List (List Nat × List Nat) := (true, [([], []), ([0], [0]), ([], []), ([], []), ([], []), ([2, 3, 4], [2, 3, 4]), ([5], [5]), ([1, 6, 5], [1, 6]), ([0, 1, 2, 3, 4, 5, 6, 7], []), ([8, 7, 7, 0, 1, 2, 3, 4, 5, 6, 7], [7, 8])])
def spec_MakePuzzle.B13 : List Nat := [0, 1, 0, 0, 0, 28, 60, 127, 255, 511]
theorem spec_MakePuzzle.tab13 : rtab .any (opsOf Try.f79 13) = spec_MakePuzzle.T13 := by kernel_rfl
theorem spec_MakePuzzle.bits13 : waitsOk spec_MakePuzzle.T13.2 spec_MakePuzzle.B13 = true := by kernel_rfl
theorem spec_MakePuzzle.calls (k : Nat) (A0 : Option Addr) (c0 : Nat) (l0 : List Int) (a1 : Int) (a2 : Int) (r1 : List (S58)) (r2 : Bool) (w : World) (hr0 : Kd.C (Kd.int .i64) w A0 l0.length l0) (hc0 : l0.length ≤ c0) (h : spec_MakePuzzle.f k l0 a1 a2 = some (r1, r2)) :
 Calls Try.prog 79 #[.slice A0 l0.length c0, .int .i64 a1, .int .i64 a2] w fun e w' => ∃ v0_ : Value, e = .returned (.tuple #[.agg #[v0_], .bool r2]) ∧ Kd.R k58 58 w' w.heap.size (fun _ => True) v0_ r1 ∧ Below w.heap.size w w' := by
 have hu52 := Try.underlying52
 have HR0 := jA hr0
 have HC0 := jA hc0
 clear hr0 hc0
 have HB := jA (jU w.heap.size w)
 have H := h; unfold spec_MakePuzzle.f at H
 clear h
 have HC4 := jA H
 clear H
 go_enter Try.func79, Try.ntmps79
 go_upto_region 1 with (first | ((with_reducible refine gate_dst (N := 6) rfl ?_); refine box_event ?hg (N := 6) ?hd (cs := #[.slice none 0 0]) (t := 52) ?hr ?_; (case hd => rfl); (case hg => rfl); (case hr => first | (go_simp; done) | (go_simp; rfl)); intro gb279 hg w5 hbox hb; have BK279 := jA (hbox); have GW279 := jA ((by rw [hg]; exact (jL Ub) : w.heap.size ≤ gb279)); have GE279 := jA ((by rw [hg]; exact (jL Ub) : w.heap.size ≤ gb279)); replace HB := jA (jB Ub hb); clear hb hbox hg))
 (try simp only [Act.put, List.setIfInBounds_toArray, List.set_cons_zero, List.set_cons_succ])
 go_cut [24] (fun v24 wc => ∃ (kq : Nat) (x24_3 : Bool), v24 = .bool x24_3 ∧ Aside0 (spec_MakePuzzle.j0 kq l0 a1 a2 x24_3 = some (r1, r2)) ∧ Aside0 (kq ≤ k) ∧ Aside0 (wc.heap[gb279]? = some (.cells #[(.slice none 0 0)] 52 (0, 0))) ∧ Aside0 (Below w.heap.size w wc))
 case first =>
  have H := HC4.out
  clear HC4
  replace H := jD H
  obtain ⟨t280, A60, H⟩ := H
  have A6 := jA A60
  clear A60
  replace H := Iw H; rcases H with ⟨rfl, H⟩ | ⟨rfl, H⟩
  · replace H := jD H
    obtain ⟨t281, A80, H⟩ := H
    have A8 := jA A80
    clear A80
    replace H := Iw H; rcases H with ⟨rfl, H⟩ | ⟨rfl, H⟩
    · replace H := jD H
      obtain ⟨t282, A100, H⟩ := H
      have A10 := jA A100
      clear A100
      have H' := jA H
      clear H
      go_wp2_with (first | (refine Gl 13 #[.slice A0 l0.length c0] Try.func217 ?_; (with_reducible refine (spec_pzHidden.calls k _ _ l0 true _ (Cm (jY HR0.out HB.out)) HC0.out A6.out).mono ?_); rintro e w' ⟨rfl, ⟨nd, rfl⟩⟩; refine ⟨_, rfl, ?_⟩) | (go_at_call 193; (with_reducible refine (spec_l1In.calls a1 0 6 true _ A8.out).mono ?_); rintro e w' ⟨rfl, ⟨nd, rfl⟩⟩) | (go_at_call 193; (with_reducible refine (spec_l1In.calls a2 0 9999 t282 _ A10.out).mono ?_); rintro e w' ⟨rfl, ⟨nd, rfl⟩⟩))
      go_meet
      case rel => exact ⟨_, (!t282), Rs, H', ⟨by first | omega | exact jX _⟩, ⟨Bm BK279.out⟩, ⟨Ub⟩⟩
    have H' := jA H
    clear H
    go_wp2_with (first | (refine Gl 13 #[.slice A0 l0.length c0] Try.func217 ?_; (with_reducible refine (spec_pzHidden.calls k _ _ l0 true _ (Cm (jY HR0.out HB.out)) HC0.out A6.out).mono ?_); rintro e w' ⟨rfl, ⟨nd, rfl⟩⟩; refine ⟨_, rfl, ?_⟩) | (go_at_call 193; (with_reducible refine (spec_l1In.calls a1 0 6 false _ A8.out).mono ?_); rintro e w' ⟨rfl, ⟨nd, rfl⟩⟩))
    go_meet
    case rel => exact ⟨_, (true), Rs, H', ⟨by first | omega | exact jX _⟩, ⟨Bm BK279.out⟩, ⟨Ub⟩⟩
  have H' := jA H
  clear H
  go_wp2_with (first | (refine Gl 13 #[.slice A0 l0.length c0] Try.func217 ?_; (with_reducible refine (spec_pzHidden.calls k _ _ l0 false _ (Cm (jY HR0.out HB.out)) HC0.out A6.out).mono ?_); rintro e w' ⟨rfl, ⟨nd, rfl⟩⟩; refine ⟨_, rfl, ?_⟩))
  go_meet
  case rel => exact ⟨_, (true), Rs, H', ⟨by first | omega | exact jX _⟩, ⟨Bm BK279.out⟩, ⟨Ub⟩⟩
 case rest =>
  clear HC4
  obtain ⟨kq, x24_3, rfl, HA, HJ3, BK279, HB⟩ := hcut
  cases kq with
  | zero => exact absurd HA.out (by simp [spec_MakePuzzle.j0])
  | succ kj3 =>
   have H := HA.out
   clear HA
   simp only [spec_MakePuzzle.j0] at H
   by_cases c11 : x24_3 = true
   · subst c11
     have H1 : (some (([] : List (S58)), false)) = some (r1, r2) := by rw [if_pos rfl] at H; exact H
     clear H
     have H := H1
     clear H1
     simp only [Option.some.injEq, Prod.mk.injEq] at H
     obtain ⟨rfl, rfl⟩ := H
     have hcz12_0 : wc.cell? ⟨gb279, 0, none⟩ = some (.slice none 0 0) := (jE BK279.out 0).trans rfl
     have hfz12_0 := jF BK279.out 0
     go_wp2
     refine bodyPost_ret (results_ct rfl _ _ gb279 52 #[.slice none 0 0] (0, 0) _ rfl (by (with_reducible repeat refine Xg ?_); refine jp (cs := #[.slice none 0 0]) ?_ 0 _ rfl; (with_reducible repeat refine Xg ?_); exact BK279.out) Try.underlying52 rfl (by kernel_rfl)) rfl ?_
     exact ⟨_, Re, Nl, Ub⟩
   replace c11 := Bool.eq_false_iff.mpr c11
   subst c11
   have H1 : (spec_MakePuzzle.l0 kj3 l0 a1 a2 ([] : List (S58))) = some (r1, r2) := by rw [if_neg (show ¬ (false = true) by decide)] at H; exact H
   clear H
   have H := H1
   clear H1
   have H' := jA H
   clear H
   go_wp2_with (first | ((with_reducible refine gate_dst (N := 8) rfl ?_); refine box_event ?hg (N := 8) ?hd (cs := #[.slice none 0 0]) (t := 52) ?hr ?_; (case hd => rfl); (case hg => rfl); (case hr => first | (go_simp; done) | (go_simp; rfl)); intro gb283 hg w13 hbox hb; have BK283 := jA (hbox); have GW283 := jA ((by rw [hg]; exact (jL Ub) : w.heap.size ≤ gb283)); have GE283 := jA ((by rw [hg]; exact (jL Ub) : w.heap.size ≤ gb283)); replace HB := jA (jB Ub hb); have NB279_283 := jA ((by rw [hg]; exact jZ (blk_lt (g := gb279) (o := .cells #[.slice none 0 0] 52 (0, 0)) (Bm BK279.out)) : gb279 ≠ gb283)); have NB283_279 := jA ((by rw [hg]; exact ja (blk_lt (g := gb279) (o := .cells #[.slice none 0 0] 52 (0, 0)) (Bm BK279.out)) : gb283 ≠ gb279)); replace BK279 := jA (jN (g := gb279) (o := .cells #[.slice none 0 0] 52 (0, 0)) (Bm BK279.out) hb); clear hb hbox hg))
   go_loopg [1, 9] kj3 (fun kq v1 v9 w' => ∃ (x1_2 : Int) (x9_2 : Int) (x284000_2 : List (S58)) (u284000 : Value), v1 = .int .i64 x1_2 ∧ v9 = .int .i64 x9_2 ∧ Aside0 (spec_MakePuzzle.l0 kq l0 x1_2 x9_2 x284000_2 = some (r1, r2)) ∧ Aside0 (kq ≤ kj3) ∧ Aside0 (Kd.R k58 58 w' w.heap.size (fun _ => True) u284000 x284000_2) ∧ Aside0 (w'.heap[gb279]? = some (.cells #[(.slice none 0 0)] 52 (0, 0))) ∧ Aside0 (w'.heap[gb283]? = some (.cells #[u284000] 52 (0, 0))) ∧ Aside0 (Below w.heap.size w w'))
   case atStart => exact ⟨(a1), (a2), (([] : List (S58))), (.slice none 0 0), Rs, Rs, H', ⟨jX _⟩, ⟨Nl⟩, ⟨Bm BK279.out⟩, ⟨Bm BK283.out⟩, ⟨Ub⟩⟩
   case round =>
    clear H'
    try clear c11
    try clear hcz12_0
    try clear hfz12_0
    obtain ⟨x1_2, x9_2, x284000_2, u284000, rfl, rfl, HA, HK2, HO_284000, BK279, BK283, HB⟩ := hrel
    cases gk with
    | zero => exact absurd HA.out (by simp [spec_MakePuzzle.l0])
    | succ k2 =>
     have H := HA.out
     clear HA
     simp only [spec_MakePuzzle.l0] at H
     replace H := Ic H; rcases H with ⟨c14, H⟩ | ⟨c14, H⟩
     · have c14b0 : decide (0 < x1_2) = true := jK c14
       clear c14
       replace H := jD H
       obtain ⟨t284, A150, H⟩ := H
       have A15 := jA A150
       clear A150
       replace H := jD H
       obtain ⟨t285, A160, H⟩ := H
       have A16 := jA A160
       clear A160
       replace H := Ic H; rcases H with ⟨c17, H⟩ | ⟨c17, H⟩
       · have c17b0 : ((Int.tmod t284 6) == 5) = true := beq_iff_eq.mpr c17
         have c17b1 := bne_eq_false_iff_eq.mpr c17
         clear c17
         replace H := jD H
         obtain ⟨⟨t286, t287, t288⟩, A180, H⟩ := H
         have A18 := jA A180
         clear A180
         replace H := Ip H; obtain ⟨c19, H⟩ := H
         have LMc19 := jA c19
         clear c19
         obtain ⟨y289, hy289⟩ : ∃ y_ : List (S58), y_ = (x284000_2 ++ [(⟨t286, t287, t288⟩ : S58)]) := ⟨_, rfl⟩
         replace H : (spec_MakePuzzle.l0 k2 l0 (wrap64 (x1_2 - 1)) t285 y289) = some (r1, r2) := by first | (rw [hy289]; with_reducible exact H) | (have H2_ := (Option.bind_some _ _).symm.trans H; rw [hy289]; with_reducible exact H2_) | (have H2_ := (Option.bind_some _ _).symm.trans H; with_reducible exact H2_) | with_reducible exact H | (rw [hy289]; exact H) | exact H
         have Ny289 := jA hy289
         clear hy289
         have H' := jA H
         clear H
         try go_wp2_with (first | (refine Gl 32 #[.int .i64 x9_2] Try.func218 ?_; (with_reducible refine (spec_pzNext.calls x9_2 t284 _ A15.out).mono ?_); rintro e w' ⟨rfl, ⟨nd, rfl⟩⟩; refine ⟨_, rfl, ?_⟩; (try (rw [drewN_self wr]; generalize hq_ : World.drewN wr _ = wr; have n0_ : Aside0 (Kd.R k58 58 wr w.heap.size (fun _ => True) u284000 x284000_2) := ⟨by rw [← hq_]; exact (Rm HO_284000.out)⟩; have n1_ : Aside0 (wr.heap[gb279]? = some (.cells #[.slice none 0 0] 52 (0, 0))) := ⟨by rw [← hq_]; exact (Bm BK279.out)⟩; have n2_ : Aside0 (wr.heap[gb283]? = some (.cells #[u284000] 52 (0, 0))) := ⟨by rw [← hq_]; exact (Bm BK283.out)⟩; have n3_ : Aside0 (Below w.heap.size w wr) := ⟨by rw [← hq_]; exact Ub⟩; clear HO_284000 BK279 BK283 HB hq_; have HO_284000 := n0_; have BK279 := n1_; have BK283 := n2_; have HB := n3_; clear n0_ n1_ n2_ n3_; (try have hcyBK279_0 : wr.cell? ⟨gb279, 0, none⟩ = some (.slice none 0 0) := (jE BK279.out 0).trans rfl); (try have hcyBK283_0 : wr.cell? ⟨gb283, 0, none⟩ = some (u284000) := (jE BK283.out 0).trans rfl)))) | (refine Gl 36 #[.int .i64 t284] Try.func218 ?_; (with_reducible refine (spec_pzNext.calls t284 t285 _ A16.out).mono ?_); rintro e w' ⟨rfl, ⟨nd, rfl⟩⟩; refine ⟨_, rfl, ?_⟩; (try (rw [drewN_self wr]; generalize hq_ : World.drewN wr _ = wr; have n0_ : Aside0 (Kd.R k58 58 wr w.heap.size (fun _ => True) u284000 x284000_2) := ⟨by rw [← hq_]; exact (Rm HO_284000.out)⟩; have n1_ : Aside0 (wr.heap[gb279]? = some (.cells #[.slice none 0 0] 52 (0, 0))) := ⟨by rw [← hq_]; exact (Bm BK279.out)⟩; have n2_ : Aside0 (wr.heap[gb283]? = some (.cells #[u284000] 52 (0, 0))) := ⟨by rw [← hq_]; exact (Bm BK283.out)⟩; have n3_ : Aside0 (Below w.heap.size w wr) := ⟨by rw [← hq_]; exact Ub⟩; clear HO_284000 BK279 BK283 HB hq_; have HO_284000 := n0_; have BK279 := n1_; have BK283 := n2_; have HB := n3_; clear n0_ n1_ n2_ n3_; (try have hcyBK279_0 : wr.cell? ⟨gb279, 0, none⟩ = some (.slice none 0 0) := (jE BK279.out 0).trans rfl); (try have hcyBK283_0 : wr.cell? ⟨gb283, 0, none⟩ = some (u284000) := (jE BK283.out 0).trans rfl)))))
         replace HO_284000 := jA (Kd.R_drew HO_284000.out); replace BK279 := jA (jR BK279.out); replace BK283 := jA (jR BK283.out); replace HB := jA (jQ HB.out)
         refine start_ (n := 10) (S := fun w' => w'.cell? ⟨gb283, 0, none⟩ = some (u284000)) (ds := [9]) #[false, false, false, false, false, false, false, false, false, false] (by kernel_rfl) rfl rfl ((jE BK283.out 0).trans rfl) (fun hHeld => ?_); refine with_tabW spec_MakePuzzle.tab13 spec_MakePuzzle.bits13 (fun HT_ HW_ => ?_)
         generalize wr.drew = w20 at HO_284000 BK279 BK283 HB hHeld ⊢
         refine Pu 0 44 #[true, false, false, false, false, false, false, false, false, false] HT_.out ?_
         refine Pu 2 46 #[true, false, true, false, false, false, false, false, false, false] HT_.out ?_
         refine Pu 3 47 #[true, false, true, true, false, false, false, false, false, false] HT_.out ?_
         refine Pu 4 48 #[true, false, true, true, true, false, false, false, false, false] HT_.out ?_
         refine take_ (i := 1) (N := some 45) (v := ?_) (a' := ?_) #[true, true, true, true, true, false, false, false, false, false] rfl rfl (take_ofW HT_.out HW_.out (by kernel_rfl)) (fun _ _ _ h => h) (Or.inl ⟨by rfl, ?_⟩) hHeld ?_ ?_
         rotate_left
         · intro w' s0
           go_simp
           with_reducible rfl
         rotate_left
         · simp only [Act.put, List.setIfInBounds_toArray, List.set_cons_zero, List.set_cons_succ, i64_w, i32_w]
           rfl
         refine one_ (i := 5) (N := some 49) #[true, true, true, true, true, true, false, false, false, false] rfl rfl (one_of HT_.out (by kernel_rfl)) (by decide) (fun K hK => ?_)
         refine goes_ Try.func219 (by kernel_rfl) rfl #[.int .i64 (Int.tmod t284 6), .int .i64 (wrap64 ((Int.tmod t285 6) + 1)), .slice A0 l0.length c0] (by rfl) rfl rfl Ga ?_
         with_reducible refine (spec_pzOf.calls k2 (Int.tmod t284 6) (wrap64 ((Int.tmod t285 6) + 1)) _ _ l0 t286 t287 t288 _ ?side1 ?side2 A18.out).mono ?_
         (case side1 => repeat (first | exact (jY HR0.out HB.out) | (with_reducible refine Xc ?_)))
         (case side2 => exact HC0.out)
         rintro e w21 ⟨rfl, hb⟩
         refine ⟨_, rfl, ?_⟩
         replace HO_284000 := jA (Kd.R_below (Rm HO_284000.out) hb); replace BK279 := jA (jN (g := gb279) (o := .cells #[.slice none 0 0] 52 (0, 0)) (Bm BK279.out) hb); replace BK283 := jA (jN (g := gb283) (o := .cells #[u284000] 52 (0, 0)) (Bm BK283.out) hb); replace HB := jA (jB Ub hb); (try clear hb); (try clear hb2); (try clear hk); (try clear hi)
         refine hK.out _ _ ((jE BK283.out 0).trans rfl) (fun hHeld => ?_)
         clear hK K
         refine norm_ (a' := ?_) ?_ ?_
         rotate_left
         · show Act.put _ (some 49) _ = _
           simp only [Act.put, List.setIfInBounds_toArray, List.set_cons_zero, List.set_cons_succ, i64_w, i32_w]
           rfl
         refine one_ (i := 6) (N := some 50) #[true, true, true, true, true, true, true, false, false, false] rfl rfl (one_of HT_.out (by kernel_rfl)) (by decide) (fun K hK => ?_)
         refine value_ (w1 := ?_) (v := ?_) (by rfl) rfl ?_ ?_
         rotate_left 2
         · go_simp
           constructor
           · rfl
           rfl
         refine hK.out _ _ ((jE (blk_alloc BK283.out _) 0).trans rfl) (fun hHeld => ?_)
         clear hK K
         refine norm_ (a' := ?_) ?_ ?_
         rotate_left
         · show Act.put _ (some 50) _ = _
           simp only [Act.put, List.setIfInBounds_toArray, List.set_cons_zero, List.set_cons_succ, i64_w, i32_w]
           rfl
         refine one_ (i := 7) (N := some 51) #[true, true, true, true, true, true, true, true, false, false] rfl rfl (one_of HT_.out (by kernel_rfl)) (by decide) (fun K hK => ?_)
         refine Kd.R_append_step k58 (w0 := w) w.heap.size (by rfl) (.tmp 45) (.tmp 50) 50 58 (.agg #[(.int .i64 0), (.int .i64 0), (.int .i64 0)]) 24 rfl Try.underlying50 info58 rfl (by decide) (by omega) u284000 x284000_2 (⟨t286, t287, t288⟩ : S58) [.int .i64 t286, .int .i64 t287, .int .i64 t288] (fun _ => True) (fun _ => False) rfl rfl ?aP (fun _ hk => hk.elim) ?aF ?aO ?aB ?aS ?aL ?_
         (case aP => exact k58_mkM _ _ _ (⟨t286, t287, t288⟩ : S58))
         (case aB => exact Ub)
         (case aF => exact (fun _ _ => trivial))
         (case aO => exact (Rm HO_284000.out))
         (case aS => exact (jL Ub))
         (case aL => have := LMc19.out; omega)
         intro v290 w22 ho hb hg hat
         rw [← Ny289.out] at ho
         have n0_ := jA (js (g := gb279) (o := .cells #[.slice none 0 0] 52 (0, 0)) (Bm BK279.out) hg (Kd.R_ne HO_284000.out BK279.out (by decide))); have n1_ := jA (js (g := gb283) (o := .cells #[u284000] 52 (0, 0)) (Bm BK283.out) hg (Kd.R_ne HO_284000.out BK283.out (by decide))); have n2_ := jA (hb); have n3_ := jA (ho); clear BK279 BK283 HB HO_284000; have BK279 := n0_; have BK283 := n1_; have HB := n2_; have HO291 := n3_; clear n0_ n1_ n2_ n3_ ho hb hg hat
         obtain ⟨Ao23, co23, eo23⟩ := jq HO291.out
         (first | subst eo23 | (injection eo23 with f1_ f2_ f3_; have f4_ := f1_.symm; have f5_ := f3_.symm; clear f1_ f2_ f3_; subst f4_; subst f5_))
         refine hK.out _ _ ((jE BK283.out 0).trans rfl) (fun hHeld => ?_)
         clear hK K
         refine norm_ (a' := ?_) ?_ ?_
         rotate_left
         · show Act.put _ (some 51) _ = _
           simp only [Act.put, List.setIfInBounds_toArray, List.set_cons_zero, List.set_cons_succ, i64_w, i32_w]
           rfl
         refine Pu 8 52 #[true, true, true, true, true, true, true, true, true, false] HT_.out ?_
         refine last_ (i := 9) (N := none) #[true, true, true, true, true, true, true, true, true, true] rfl rfl (one_of HT_.out (by kernel_rfl)) (by decide) (fun K hK => ?_)
         have hs24 : w22.cell? ⟨gb283, 0, none⟩ = some (u284000) := (jE BK283.out 0).trans rfl
         have hfs24 := jF BK283.out 0
         have hns24_0 := NB279_283.out
         have hms24_0 := NB283_279.out
         refine skip_ (w1 := ?_) (by rfl) rfl ?_ ?_
         rotate_left
         · go_simp
           rfl
         refine hK.out _ _ ?_
         clear hK K
         refine done_ (done_of HT_.out (by kernel_rfl)) ?_
         try go_wp2
         go_roundg k2
         case measure => have := HJ3.out; have := HK2.out; omega
         case rel => exact ⟨(wrap64 (x1_2 - 1)), (t285), (y289), (.slice Ao23 y289.length co23), Rs, Rs, H', ⟨by have := HJ3.out; have := HK2.out; omega⟩, ⟨by (with_reducible repeat apply Xq); exact jW (jg (p := ⟨gb283, 0, none⟩) (jm HO291.out BK283.out (by decide)) (fun _ hk => hk.2) (.slice Ao23 y289.length co23)) (fun _ hk => trivial)⟩, ⟨by (with_reducible repeat refine Xg ?_); refine jk ?_ NB279_283.out _; (with_reducible repeat refine Xg ?_); exact BK279.out⟩, ⟨by (with_reducible repeat refine Xg ?_); refine jp (cs := #[u284000]) ?_ 0 _ rfl; (with_reducible repeat refine Xg ?_); exact BK283.out⟩, ⟨Ub⟩⟩
       have c17b0 : ((Int.tmod t284 6) == 5) = false := beq_eq_false_iff_ne.mpr c17
       have c17b1 := bne_iff_ne.mpr c17
       replace H := jD H
       obtain ⟨⟨t292, t293, t294⟩, A250, H⟩ := H
       have A25 := jA A250
       clear A250
       replace H := Ip H; obtain ⟨c26, H⟩ := H
       have LMc26 := jA c26
       clear c26
       obtain ⟨y295, hy295⟩ : ∃ y_ : List (S58), y_ = (x284000_2 ++ [(⟨t292, t293, t294⟩ : S58)]) := ⟨_, rfl⟩
       replace H : (spec_MakePuzzle.l0 k2 l0 (wrap64 (x1_2 - 1)) t285 y295) = some (r1, r2) := by first | (rw [hy295]; with_reducible exact H) | (have H2_ := (Option.bind_some _ _).symm.trans H; rw [hy295]; with_reducible exact H2_) | (have H2_ := (Option.bind_some _ _).symm.trans H; with_reducible exact H2_) | with_reducible exact H | (rw [hy295]; exact H) | exact H
       have Ny295 := jA hy295
       clear hy295
       have H' := jA H
       clear H
       try go_wp2_with (first | (refine Gl 32 #[.int .i64 x9_2] Try.func218 ?_; (with_reducible refine (spec_pzNext.calls x9_2 t284 _ A15.out).mono ?_); rintro e w' ⟨rfl, ⟨nd, rfl⟩⟩; refine ⟨_, rfl, ?_⟩; (try (rw [drewN_self wr]; generalize hq_ : World.drewN wr _ = wr; have n0_ : Aside0 (Kd.R k58 58 wr w.heap.size (fun _ => True) u284000 x284000_2) := ⟨by rw [← hq_]; exact (Rm HO_284000.out)⟩; have n1_ : Aside0 (wr.heap[gb279]? = some (.cells #[.slice none 0 0] 52 (0, 0))) := ⟨by rw [← hq_]; exact (Bm BK279.out)⟩; have n2_ : Aside0 (wr.heap[gb283]? = some (.cells #[u284000] 52 (0, 0))) := ⟨by rw [← hq_]; exact (Bm BK283.out)⟩; have n3_ : Aside0 (Below w.heap.size w wr) := ⟨by rw [← hq_]; exact Ub⟩; clear HO_284000 BK279 BK283 HB hq_; have HO_284000 := n0_; have BK279 := n1_; have BK283 := n2_; have HB := n3_; clear n0_ n1_ n2_ n3_; (try have hcyBK279_0 : wr.cell? ⟨gb279, 0, none⟩ = some (.slice none 0 0) := (jE BK279.out 0).trans rfl); (try have hcyBK283_0 : wr.cell? ⟨gb283, 0, none⟩ = some (u284000) := (jE BK283.out 0).trans rfl)))) | (refine Gl 36 #[.int .i64 t284] Try.func218 ?_; (with_reducible refine (spec_pzNext.calls t284 t285 _ A16.out).mono ?_); rintro e w' ⟨rfl, ⟨nd, rfl⟩⟩; refine ⟨_, rfl, ?_⟩; (try (rw [drewN_self wr]; generalize hq_ : World.drewN wr _ = wr; have n0_ : Aside0 (Kd.R k58 58 wr w.heap.size (fun _ => True) u284000 x284000_2) := ⟨by rw [← hq_]; exact (Rm HO_284000.out)⟩; have n1_ : Aside0 (wr.heap[gb279]? = some (.cells #[.slice none 0 0] 52 (0, 0))) := ⟨by rw [← hq_]; exact (Bm BK279.out)⟩; have n2_ : Aside0 (wr.heap[gb283]? = some (.cells #[u284000] 52 (0, 0))) := ⟨by rw [← hq_]; exact (Bm BK283.out)⟩; have n3_ : Aside0 (Below w.heap.size w wr) := ⟨by rw [← hq_]; exact Ub⟩; clear HO_284000 BK279 BK283 HB hq_; have HO_284000 := n0_; have BK279 := n1_; have BK283 := n2_; have HB := n3_; clear n0_ n1_ n2_ n3_; (try have hcyBK279_0 : wr.cell? ⟨gb279, 0, none⟩ = some (.slice none 0 0) := (jE BK279.out 0).trans rfl); (try have hcyBK283_0 : wr.cell? ⟨gb283, 0, none⟩ = some (u284000) := (jE BK283.out 0).trans rfl)))))
       replace HO_284000 := jA (Kd.R_drew HO_284000.out); replace BK279 := jA (jR BK279.out); replace BK283 := jA (jR BK283.out); replace HB := jA (jQ HB.out)
       refine start_ (n := 10) (S := fun w' => w'.cell? ⟨gb283, 0, none⟩ = some (u284000)) (ds := [9]) #[false, false, false, false, false, false, false, false, false, false] (by kernel_rfl) rfl rfl ((jE BK283.out 0).trans rfl) (fun hHeld => ?_); refine with_tabW spec_MakePuzzle.tab13 spec_MakePuzzle.bits13 (fun HT_ HW_ => ?_)
       generalize wr.drew = w27 at HO_284000 BK279 BK283 HB hHeld ⊢
       refine Pu 0 44 #[true, false, false, false, false, false, false, false, false, false] HT_.out ?_
       refine Pu 2 46 #[true, false, true, false, false, false, false, false, false, false] HT_.out ?_
       refine Pu 3 47 #[true, false, true, true, false, false, false, false, false, false] HT_.out ?_
       refine Pu 4 48 #[true, false, true, true, true, false, false, false, false, false] HT_.out ?_
       refine take_ (i := 1) (N := some 45) (v := ?_) (a' := ?_) #[true, true, true, true, true, false, false, false, false, false] rfl rfl (take_ofW HT_.out HW_.out (by kernel_rfl)) (fun _ _ _ h => h) (Or.inl ⟨by rfl, ?_⟩) hHeld ?_ ?_
       rotate_left
       · intro w' s0
         go_simp
         with_reducible rfl
       rotate_left
       · simp only [Act.put, List.setIfInBounds_toArray, List.set_cons_zero, List.set_cons_succ, i64_w, i32_w]
         rfl
       refine one_ (i := 5) (N := some 49) #[true, true, true, true, true, true, false, false, false, false] rfl rfl (one_of HT_.out (by kernel_rfl)) (by decide) (fun K hK => ?_)
       refine goes_ Try.func219 (by kernel_rfl) rfl #[.int .i64 (Int.tmod t284 6), .int .i64 (Int.tmod t285 25), .slice A0 l0.length c0] (by rfl) rfl rfl Ga ?_
       with_reducible refine (spec_pzOf.calls k2 (Int.tmod t284 6) (Int.tmod t285 25) _ _ l0 t292 t293 t294 _ ?side1 ?side2 A25.out).mono ?_
       (case side1 => repeat (first | exact (jY HR0.out HB.out) | (with_reducible refine Xc ?_)))
       (case side2 => exact HC0.out)
       rintro e w28 ⟨rfl, hb⟩
       refine ⟨_, rfl, ?_⟩
       replace HO_284000 := jA (Kd.R_below (Rm HO_284000.out) hb); replace BK279 := jA (jN (g := gb279) (o := .cells #[.slice none 0 0] 52 (0, 0)) (Bm BK279.out) hb); replace BK283 := jA (jN (g := gb283) (o := .cells #[u284000] 52 (0, 0)) (Bm BK283.out) hb); replace HB := jA (jB Ub hb); (try clear hb); (try clear hb2); (try clear hk); (try clear hi)
       refine hK.out _ _ ((jE BK283.out 0).trans rfl) (fun hHeld => ?_)
       clear hK K
       refine norm_ (a' := ?_) ?_ ?_
       rotate_left
       · show Act.put _ (some 49) _ = _
         simp only [Act.put, List.setIfInBounds_toArray, List.set_cons_zero, List.set_cons_succ, i64_w, i32_w]
         rfl
       refine one_ (i := 6) (N := some 50) #[true, true, true, true, true, true, true, false, false, false] rfl rfl (one_of HT_.out (by kernel_rfl)) (by decide) (fun K hK => ?_)
       refine value_ (w1 := ?_) (v := ?_) (by rfl) rfl ?_ ?_
       rotate_left 2
       · go_simp
         constructor
         · rfl
         rfl
       refine hK.out _ _ ((jE (blk_alloc BK283.out _) 0).trans rfl) (fun hHeld => ?_)
       clear hK K
       refine norm_ (a' := ?_) ?_ ?_
       rotate_left
       · show Act.put _ (some 50) _ = _
         simp only [Act.put, List.setIfInBounds_toArray, List.set_cons_zero, List.set_cons_succ, i64_w, i32_w]
         rfl
       refine one_ (i := 7) (N := some 51) #[true, true, true, true, true, true, true, true, false, false] rfl rfl (one_of HT_.out (by kernel_rfl)) (by decide) (fun K hK => ?_)
       refine Kd.R_append_step k58 (w0 := w) w.heap.size (by rfl) (.tmp 45) (.tmp 50) 50 58 (.agg #[(.int .i64 0), (.int .i64 0), (.int .i64 0)]) 24 rfl Try.underlying50 info58 rfl (by decide) (by omega) u284000 x284000_2 (⟨t292, t293, t294⟩ : S58) [.int .i64 t292, .int .i64 t293, .int .i64 t294] (fun _ => True) (fun _ => False) rfl rfl ?aP (fun _ hk => hk.elim) ?aF ?aO ?aB ?aS ?aL ?_
       (case aP => exact k58_mkM _ _ _ (⟨t292, t293, t294⟩ : S58))
       (case aB => exact Ub)
       (case aF => exact (fun _ _ => trivial))
       (case aO => exact (Rm HO_284000.out))
       (case aS => exact (jL Ub))
       (case aL => have := LMc26.out; omega)
       intro v296 w29 ho hb hg hat
       rw [← Ny295.out] at ho
       have n0_ := jA (js (g := gb279) (o := .cells #[.slice none 0 0] 52 (0, 0)) (Bm BK279.out) hg (Kd.R_ne HO_284000.out BK279.out (by decide))); have n1_ := jA (js (g := gb283) (o := .cells #[u284000] 52 (0, 0)) (Bm BK283.out) hg (Kd.R_ne HO_284000.out BK283.out (by decide))); have n2_ := jA (hb); have n3_ := jA (ho); clear BK279 BK283 HB HO_284000; have BK279 := n0_; have BK283 := n1_; have HB := n2_; have HO297 := n3_; clear n0_ n1_ n2_ n3_ ho hb hg hat
       obtain ⟨Ao30, co30, eo30⟩ := jq HO297.out
       (first | subst eo30 | (injection eo30 with f1_ f2_ f3_; have f4_ := f1_.symm; have f5_ := f3_.symm; clear f1_ f2_ f3_; subst f4_; subst f5_))
       refine hK.out _ _ ((jE BK283.out 0).trans rfl) (fun hHeld => ?_)
       clear hK K
       refine norm_ (a' := ?_) ?_ ?_
       rotate_left
       · show Act.put _ (some 51) _ = _
         simp only [Act.put, List.setIfInBounds_toArray, List.set_cons_zero, List.set_cons_succ, i64_w, i32_w]
         rfl
       refine Pu 8 52 #[true, true, true, true, true, true, true, true, true, false] HT_.out ?_
       refine last_ (i := 9) (N := none) #[true, true, true, true, true, true, true, true, true, true] rfl rfl (one_of HT_.out (by kernel_rfl)) (by decide) (fun K hK => ?_)
       have hs31 : w29.cell? ⟨gb283, 0, none⟩ = some (u284000) := (jE BK283.out 0).trans rfl
       have hfs31 := jF BK283.out 0
       have hns31_0 := NB279_283.out
       have hms31_0 := NB283_279.out
       refine skip_ (w1 := ?_) (by rfl) rfl ?_ ?_
       rotate_left
       · go_simp
         rfl
       refine hK.out _ _ ?_
       clear hK K
       refine done_ (done_of HT_.out (by kernel_rfl)) ?_
       try go_wp2
       go_roundg k2
       case measure => have := HJ3.out; have := HK2.out; omega
       case rel => exact ⟨(wrap64 (x1_2 - 1)), (t285), (y295), (.slice Ao30 y295.length co30), Rs, Rs, H', ⟨by have := HJ3.out; have := HK2.out; omega⟩, ⟨by (with_reducible repeat apply Xq); exact jW (jg (p := ⟨gb283, 0, none⟩) (jm HO297.out BK283.out (by decide)) (fun _ hk => hk.2) (.slice Ao30 y295.length co30)) (fun _ hk => trivial)⟩, ⟨by (with_reducible repeat refine Xg ?_); refine jk ?_ NB279_283.out _; (with_reducible repeat refine Xg ?_); exact BK279.out⟩, ⟨by (with_reducible repeat refine Xg ?_); refine jp (cs := #[u284000]) ?_ 0 _ rfl; (with_reducible repeat refine Xg ?_); exact BK283.out⟩, ⟨Ub⟩⟩
     have c14b0 : decide (0 < x1_2) = false := jV c14
     clear c14
     simp only [Option.some.injEq, Prod.mk.injEq] at H
     obtain ⟨rfl, rfl⟩ := H
     have hnb32 := NB283_279.out
     have hnc32 := NB279_283.out
     have hcz33_0 : wr.cell? ⟨gb283, 0, none⟩ = some (u284000) := (jE BK283.out 0).trans rfl
     have hfz33_0 := jF BK283.out 0
     obtain ⟨Ao34, co34, eo34⟩ := jq HO_284000.out
     subst eo34
     have hcz35_0 : wr.cell? ⟨gb279, 0, none⟩ = some (.slice none 0 0) := (jE BK279.out 0).trans rfl
     have hfz35_0 := jF BK279.out 0
     go_wp2
     refine bodyPost_ret (results_ct rfl _ _ gb279 52 #[.slice Ao34 x284000_2.length co34] (0, 0) _ rfl (by (with_reducible repeat refine Xg ?_); refine jp (cs := #[.slice none 0 0]) ?_ 0 _ rfl; (with_reducible repeat refine Xg ?_); exact BK279.out) Try.underlying52 rfl (by kernel_rfl)) rfl ?_
     exact ⟨_, Re, by (with_reducible repeat apply Xq); exact jW (jg (p := ⟨gb279, 0, none⟩) (jm HO_284000.out BK279.out (by decide)) (fun _ hk => hk.2) (.slice Ao34 x284000_2.length co34)) (fun _ hk => trivial), Ub⟩

/-! ### laws_jClues: function 80 -/
def laws_jClues.l0 : Nat → List (S58) → List (S58) → Int → Int → Option (Bool)
 | 0, _, _, _, _ => none
 | k + 1, x0, x1, x12, x13 => if x13 < x12 then (if 0 ≤ x13 then (if x13 < (x0.length : Int) then (if x13 < (x1.length : Int) then (if (!(((rd_T58 x0 x13).f0) == ((rd_T58 x1 x13).f0)) || (!(((rd_T58 x0 x13).f1) == ((rd_T58 x1 x13).f1)) || (!(((rd_T58 x0 x13).f2) == ((rd_T58 x1 x13).f2))))) = true then (some false) else (laws_jClues.l0 k x0 x1 x12 (wrap64 (x13 + 1)))) else (none)) else (none)) else (none)) else (some true)
def laws_jClues.f (k : Nat) (l0 : List (S58)) (l1 : List (S58)) : Option (Bool) := if (l0.length : Int) = (l1.length : Int) then (laws_jClues.l0 k l0 l1 (l0.length : Int) 0) else (some false)
theorem laws_jClues.calls (k : Nat) (A0 : Option Addr) (c0 : Nat) (l0 : List (S58)) (A1 : Option Addr) (c1 : Nat) (l1 : List (S58)) (r : Bool) (w : World) (hr0 : Kd.C k58 w A0 l0.length l0) (hc0 : l0.length ≤ c0) (hr1 : Kd.C k58 w A1 l1.length l1) (hc1 : l1.length ≤ c1) (h : laws_jClues.f k l0 l1 = some r) :
 Calls Try.prog 80 #[.slice A0 l0.length c0, .slice A1 l1.length c1] w fun e w' => e = .returned (.bool r) ∧ Drawn0 w w' := by
 have hu58 := Try.underlying58
 have HR0 := jA hr0
 have HC0 := jA hc0
 clear hr0 hc0
 have HR1 := jA hr1
 have HC1 := jA hc1
 clear hr1 hc1
 have H := h; unfold laws_jClues.f at H
 clear h
 replace H := Ic H; rcases H with ⟨c3, H⟩ | ⟨c3, H⟩
 · have c3b0 : ((l0.length : Int) == (l1.length : Int)) = true := beq_iff_eq.mpr c3
   have c3b1 := bne_eq_false_iff_eq.mpr c3
   have c3b2 : (l0.length == l1.length) = true := by first | simpa using c3 | (simp at c3 ⊢; omega)
   clear c3
   have H' := jA H
   clear H
   go_enter Try.func80, Try.ntmps80
   go_wp2
   repeat (go_quiet (fail); try go_wp2)
   go_loopg [13] k (fun kq v13 w' => ∃ (x13_1 : Int), v13 = .int .i64 x13_1 ∧ Aside0 (laws_jClues.l0 kq l0 l1 (l0.length : Int) x13_1 = some r) ∧ Aside0 (kq ≤ k) ∧ Drawn0 w w')
   case atStart => exact ⟨(0), Rs, H', ⟨jX _⟩, Dr⟩
   case round =>
    clear H'
    try clear c1
    try clear c3
    try clear c3b0
    try clear c3b1
    try clear c3b2
    obtain ⟨x13_1, rfl, HA, HK1, ⟨m1, rfl⟩⟩ := hrel
    cases gk with
    | zero => exact absurd HA.out (by simp [laws_jClues.l0])
    | succ k1 =>
     have H := HA.out
     clear HA
     simp only [laws_jClues.l0] at H
     replace H := Ic H; rcases H with ⟨c4, H⟩ | ⟨c4, H⟩
     · have c4b0 := jK c4
       clear c4
       replace H := Ip H; obtain ⟨c5, H⟩ := H
       have c5b0 := jK c5
       clear c5
       replace H := Ip H; obtain ⟨c6, H⟩ := H
       have c6b0 := jK c6
       clear c6
       replace H := Ip H; obtain ⟨c7, H⟩ := H
       have c7b0 := jK c7
       clear c7
       replace H := Ic H; rcases H with ⟨c8, H⟩ | ⟨c8, H⟩
       · have c8b0 : (!(((rd_T58 l0 x13_1).f0) == ((rd_T58 l1 x13_1).f0)) || (!(((rd_T58 l0 x13_1).f1) == ((rd_T58 l1 x13_1).f1)) || (!(((rd_T58 l0 x13_1).f2) == ((rd_T58 l1 x13_1).f2))))) = true := c8
         clear c8
         obtain rfl := jM H
         have p298 : 0 ≤ (x13_1 : Int) := Oa
         have q298 : x13_1 < (l0.length : Int) := Oa
         obtain ⟨ad298, e298, hx298_0, hx298_1, hx298_2⟩ := at_T58 HR0.out x13_1 p298 q298
         cases e298
         replace p298 := eq_true p298
         replace q298 := eq_true q298
         have p299 : 0 ≤ (x13_1 : Int) := Oa
         have q299 : x13_1 < (l1.length : Int) := Oa
         obtain ⟨ad299, e299, hx299_0, hx299_1, hx299_2⟩ := at_T58 HR1.out x13_1 p299 q299
         cases e299
         replace p299 := eq_true p299
         replace q299 := eq_true q299
         go_wp2
         repeat (go_quiet (fail); try go_wp2)
         go_ret
         exact ⟨Rs, Dr⟩
       have c8b0 : (!(((rd_T58 l0 x13_1).f0) == ((rd_T58 l1 x13_1).f0)) || (!(((rd_T58 l0 x13_1).f1) == ((rd_T58 l1 x13_1).f1)) || (!(((rd_T58 l0 x13_1).f2) == ((rd_T58 l1 x13_1).f2))))) = false := by simpa using c8
       clear c8
       have H' := jA H
       clear H
       have p298 : 0 ≤ (x13_1 : Int) := Oa
       have q298 : x13_1 < (l0.length : Int) := Oa
       obtain ⟨ad298, e298, hx298_0, hx298_1, hx298_2⟩ := at_T58 HR0.out x13_1 p298 q298
       cases e298
       replace p298 := eq_true p298
       replace q298 := eq_true q298
       have p299 : 0 ≤ (x13_1 : Int) := Oa
       have q299 : x13_1 < (l1.length : Int) := Oa
       obtain ⟨ad299, e299, hx299_0, hx299_1, hx299_2⟩ := at_T58 HR1.out x13_1 p299 q299
       cases e299
       replace p299 := eq_true p299
       replace q299 := eq_true q299
       go_wp2
       repeat (go_quiet (fail); try go_wp2)
       go_roundg k1
       case measure => have := HK1.out; omega
       case rel => exact ⟨(wrap64 (x13_1 + 1)), Rs, H', ⟨by have := HK1.out; omega⟩, Dr⟩
     have c4b0 := jV c4
     clear c4
     obtain rfl := jM H
     go_wp2
     repeat (go_quiet (fail); try go_wp2)
     go_ret
     exact ⟨Rs, Dr⟩
 have c3b0 : ((l0.length : Int) == (l1.length : Int)) = false := beq_eq_false_iff_ne.mpr c3
 have c3b1 := bne_iff_ne.mpr c3
 have c3b2 : (l0.length == l1.length) = false := by first | simpa using c3 | (simp at c3 ⊢; omega)
 obtain rfl := jM H
 go_enter Try.func80, Try.ntmps80
 go_wp2
 repeat (go_quiet (fail); try go_wp2)
 go_ret
 exact ⟨Rs, Dr⟩

/-! ### spec_IsHidden: function 82 -/
def spec_IsHidden.f (k : Nat) (l0 : List Int) : Option (Bool) := (spec_pzHidden.f k l0).bind fun t300 => (some t300)
theorem spec_IsHidden.calls (k : Nat) (A0 : Option Addr) (c0 : Nat) (l0 : List Int) (r : Bool) (w : World) (hr0 : Kd.C (Kd.int .i64) w A0 l0.length l0) (hc0 : l0.length ≤ c0) (h : spec_IsHidden.f k l0 = some r) :
 Calls Try.prog 82 #[.slice A0 l0.length c0] w fun e w' => e = .returned (.bool r) ∧ Drawn0 w w' := by
 have HR0 := jA hr0
 have HC0 := jA hc0
 clear hr0 hc0
 have H := h; unfold spec_IsHidden.f at H
 clear h
 replace H := jD H
 obtain ⟨t300, A20, H⟩ := H
 have A2 := jA A20
 clear A20
 obtain rfl := jM H
 go_enter Try.func82, Try.ntmps82
 go_wp2_with (first | (refine Gl 4 #[.slice A0 l0.length c0] Try.func217 ?_; (with_reducible refine (spec_pzHidden.calls k _ _ l0 t300 _ (Cm HR0.out) HC0.out A2.out).mono ?_); rintro e w' ⟨rfl, ⟨nd, rfl⟩⟩; refine ⟨_, rfl, ?_⟩))
 go_ret
 exact ⟨Rs, Dr⟩

end Go.Proofs.Ytgeoihhibglhgaa.PFnPiecesHidden
