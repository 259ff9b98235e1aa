-- printed by wip/xp
import Derived.Test.YtgeoihhibglhgaaPFnPiecesHiddenx0
import Derived.Test.YtgeoihhibglhgaaPFnPiecesHiddenx2
import Derived.Test.YtgeoihhibglhgaaPFnPiecesHiddenx3
import Derived.Test.YtgeoihhibglhgaaPFnPiecesHiddenx5
import Derived.Test.YtgeoihhibglhgaaPFnPiecesHiddenx9
import Derived.Test.YtgeoihhibglhgaaPFnPiecesHiddenx10
import Derived.Test.YtgeoihhibglhgaaPFnPiecesHiddenx13
import Derived.Test.YtgeoihhibglhgaaPFnPiecesHiddenx15
set_option maxHeartbeats 8000000
set_option maxRecDepth 100000
namespace Go.Proofs.Ytgeoihhibglhgaa.PFnPiecesHidden
open Go.RowKit Go.Proofs.YtgeoihhibglhgaaW.PrintWords Go.Proofs.YtgeoihhibglhgaaW.PrintLast Go.Proofs.YtgeoihhibglhgaaW.PrintMore Go.Proofs.Ytgeoihhibglhgaa.Xmv
attribute [local go_sem] max2_int min2_int max_two min_two max_three min_three max_four min_four
set_option linter.unusedVariables false
set_option linter.unusedSimpArgs false

/-! ### spec_AddClue: function 94 -/
def spec_AddClue.f (k : Nat) (l0_0 : List (S58)) (a1_0 : Int) (a1_1 : Int) (a1_2 : Int) : Option ((List (S58)) × Bool) := (spec_pzGood.f k l0_0).bind fun t554 => (if t554 = true then ((spec_pzClue.f k a1_0 a1_1 a1_2).bind fun t555 => (if t555 = true then (if (l0_0.length : Int) = 6 then (some (([] : List (S58)), false)) else ((some (([] : List (S58)) : List (S58))).bind fun y556 => (if y556.length + l0_0.length < 5864062014805 then ((some (y556 ++ l0_0 : List (S58))).bind fun y559 => ((some (([(⟨a1_0, a1_1, a1_2⟩ : S58)] : List (S58)) : List (S58))).bind fun y562 => (if y559.length + y562.length < 5864062014805 then (some ((y559 ++ y562), true)) else (none)))) else (none)))) else (some (([] : List (S58)), false)))) else (some (([] : List (S58)), false)))
def spec_AddClue.T3 : Bool × List (List Nat × List Nat) := (true, [([], []), ([], []), ([1], [1]), ([0, 2], [0, 2]), ([], []), ([4], [4]), ([3, 5, 3], [3, 5]), ([6], [6]), ([7, 6, 0, 1, 2, 3, 4, 5, 6, 7], [7]), ([8, 0, 1, 2, 3, 4, 5, 6, 7, 8], [])])
def spec_AddClue.B3 : List Nat := [0, 0, 2, 7, 0, 16, 63, 127, 255, 511]
theorem spec_AddClue.tab3 : rtab .any (opsOf Try.f94 3) = spec_AddClue.T3 := by kernel_rfl
theorem spec_AddClue.bits3 : waitsOk spec_AddClue.T3.2 spec_AddClue.B3 = true := by kernel_rfl
theorem spec_AddClue.calls (k : Nat) (A0_0 : Option Addr) (c0_0 : Nat) (l0_0 : List (S58)) (a1_0 : Int) (a1_1 : Int) (a1_2 : Int) (r1 : List (S58)) (r2 : Bool) (w : World) (hr0_0 : Kd.C k58 w A0_0 l0_0.length l0_0) (hc0_0 : l0_0.length ≤ c0_0) (h : spec_AddClue.f k l0_0 a1_0 a1_1 a1_2 = some (r1, r2)) :
 Calls Try.prog 94 #[.agg #[.slice A0_0 l0_0.length c0_0], .agg #[.int .i64 a1_0, .int .i64 a1_1, .int .i64 a1_2]] w fun e w' => ∃ v0_ : Value, e = .returned (.tuple #[.agg #[v0_], .bool r2]) ∧ Kd.R k58 58 w' w.heap.size (fun _ => True) v0_ r1 ∧ Below w.heap.size w w' := by
 have hu52 := Try.underlying52
 have hu58 := Try.underlying58
 have HR0_0 := jA hr0_0
 have HC0_0 := jA hc0_0
 clear hr0_0 hc0_0
 have HB := jA (jU w.heap.size w)
 have H := h; unfold spec_AddClue.f at H
 clear h
 replace H := jD H
 obtain ⟨t554, A30, H⟩ := H
 have A3 := jA A30
 clear A30
 replace H := Iw H; rcases H with ⟨rfl, H⟩ | ⟨rfl, H⟩
 · replace H := jD H
   obtain ⟨t555, A50, H⟩ := H
   have A5 := jA A50
   clear A50
   replace H := Iw H; rcases H with ⟨rfl, H⟩ | ⟨rfl, H⟩
   · replace H := Ic H; rcases H with ⟨c7, H⟩ | ⟨c7, H⟩
     · have c7b0 : ((l0_0.length : Int) == 6) = true := beq_iff_eq.mpr c7
       have c7b1 := bne_eq_false_iff_eq.mpr c7
       clear c7
       simp only [Option.some.injEq, Prod.mk.injEq] at H
       obtain ⟨rfl, rfl⟩ := H
       go_enter Try.func94, Try.ntmps94
       go_wp2_with (first | ((with_reducible refine gate_dst (N := 2) rfl ?_); (try (refine gate_guard (by rfl) ?_; dsimp only)); refine box_event ?hg (N := 2) ?hd (cs := #[.slice A0_0 l0_0.length c0_0]) (t := 52) ?hr ?_; (case hd => rfl); (case hg => rfl); (case hr => first | (go_simp; done) | (go_simp; rfl)); intro gb551 hg w8 hbox hb; have BK551 := jA (hbox); have GW551 := jA ((by rw [hg]; exact (jL Ub) : w.heap.size ≤ gb551)); have GE551 := jA ((by rw [hg]; exact (jL Ub) : w.heap.size ≤ gb551)); replace HB := jA (jB Ub hb); clear hb hbox hg) | ((with_reducible refine gate_dst (N := 3) rfl ?_); (try (refine gate_guard (by rfl) ?_; dsimp only)); refine box_event ?hg (N := 3) ?hd (cs := #[.int .i64 a1_0, .int .i64 a1_1, .int .i64 a1_2]) (t := 58) ?hr ?_; (case hd => rfl); (case hg => rfl); (case hr => first | (go_simp; done) | (go_simp; rfl)); intro gb552 hg w9 hbox hb; have BK552 := jA (hbox); have GW552 := jA ((by rw [hg]; exact (jL Ub) : w.heap.size ≤ gb552)); have GE552 := jA ((by rw [hg]; exact (jL Ub) : w.heap.size ≤ gb552)); replace HB := jA (jB Ub hb); have NB551_552 := jA ((by rw [hg]; exact jZ (blk_lt (g := gb551) (o := .cells #[.slice A0_0 l0_0.length c0_0] 52 (0, 0)) (Bm BK551.out)) : gb551 ≠ gb552)); have NB552_551 := jA ((by rw [hg]; exact ja (blk_lt (g := gb551) (o := .cells #[.slice A0_0 l0_0.length c0_0] 52 (0, 0)) (Bm BK551.out)) : gb552 ≠ gb551)); replace BK551 := jA (jN (g := gb551) (o := .cells #[.slice A0_0 l0_0.length c0_0] 52 (0, 0)) (Bm BK551.out) hb); clear hb hbox hg) | ((with_reducible refine gate_dst (N := 4) rfl ?_); (try (refine gate_guard (by rfl) ?_; dsimp only)); refine box_event ?hg (N := 4) ?hd (cs := #[.slice none 0 0]) (t := 52) ?hr ?_; (case hd => rfl); (case hg => rfl); (case hr => first | (go_simp; done) | (go_simp; rfl)); intro gb553 hg w10 hbox hb; have BK553 := jA (hbox); have GW553 := jA ((by rw [hg]; exact (jL Ub) : w.heap.size ≤ gb553)); have GE553 := jA ((by rw [hg]; exact (jL Ub) : w.heap.size ≤ gb553)); replace HB := jA (jB Ub hb); have NB551_553 := jA ((by rw [hg]; exact jZ (blk_lt (g := gb551) (o := .cells #[.slice A0_0 l0_0.length c0_0] 52 (0, 0)) (Bm BK551.out)) : gb551 ≠ gb553)); have NB553_551 := jA ((by rw [hg]; exact ja (blk_lt (g := gb551) (o := .cells #[.slice A0_0 l0_0.length c0_0] 52 (0, 0)) (Bm BK551.out)) : gb553 ≠ gb551)); replace BK551 := jA (jN (g := gb551) (o := .cells #[.slice A0_0 l0_0.length c0_0] 52 (0, 0)) (Bm BK551.out) hb); have NB552_553 := jA ((by rw [hg]; exact jZ (blk_lt (g := gb552) (o := .cells #[.int .i64 a1_0, .int .i64 a1_1, .int .i64 a1_2] 58 (0, 0)) (Bm BK552.out)) : gb552 ≠ gb553)); have NB553_552 := jA ((by rw [hg]; exact ja (blk_lt (g := gb552) (o := .cells #[.int .i64 a1_0, .int .i64 a1_1, .int .i64 a1_2] 58 (0, 0)) (Bm BK552.out)) : gb553 ≠ gb552)); replace BK552 := jA (jN (g := gb552) (o := .cells #[.int .i64 a1_0, .int .i64 a1_1, .int .i64 a1_2] 58 (0, 0)) (Bm BK552.out) hb); clear hb hbox hg; have hnb11 := NB551_552.out; have hnc11 := NB552_551.out; have hnb12 := NB551_553.out; have hnc12 := NB553_551.out; have hcz13_0 : w10.cell? ⟨gb551, 0, none⟩ = some (.slice A0_0 l0_0.length c0_0) := (jE BK551.out 0).trans rfl; have hfz13_0 := jF BK551.out 0) | (refine Gl 7 #[.agg #[.slice A0_0 l0_0.length c0_0]] Try.func226 ?_; (with_reducible refine (spec_pzGood.calls k _ _ l0_0 true _ (Cm (jY HR0_0.out HB.out)) HC0_0.out A3.out).mono ?_); rintro e w14 ⟨rfl, hb⟩; refine ⟨_, rfl, ?_⟩; replace BK551 := jA (jN (g := gb551) (o := .cells #[.slice A0_0 l0_0.length c0_0] 52 (0, 0)) (Bm BK551.out) hb); replace BK552 := jA (jN (g := gb552) (o := .cells #[.int .i64 a1_0, .int .i64 a1_1, .int .i64 a1_2] 58 (0, 0)) (Bm BK552.out) hb); replace BK553 := jA (jN (g := gb553) (o := .cells #[.slice none 0 0] 52 (0, 0)) (Bm BK553.out) hb); replace HB := jA (jB Ub hb); clear hb; have hnb15 := NB552_553.out; have hnc15 := NB553_552.out; have hcz16_0 : w14.cell? ⟨gb552, 0, none⟩ = some (.int .i64 a1_0) := (jE BK552.out 0).trans rfl; have hcz16_1 : w14.cell? ⟨gb552, 1, none⟩ = some (.int .i64 a1_1) := (jE BK552.out 1).trans rfl; have hcz16_2 : w14.cell? ⟨gb552, 2, none⟩ = some (.int .i64 a1_2) := (jE BK552.out 2).trans rfl; have hfz16_0 := jF BK552.out 0; have hfz16_1 := jF BK552.out 1; have hfz16_2 := jF BK552.out 2) | (go_at_call 231; (with_reducible refine (spec_pzClue.calls k a1_0 a1_1 a1_2 true _ A5.out).mono ?_); rintro e w17 ⟨rfl, hb⟩; replace BK551 := jA (jN (g := gb551) (o := .cells #[.slice A0_0 l0_0.length c0_0] 52 (0, 0)) (Bm BK551.out) hb); replace BK552 := jA (jN (g := gb552) (o := .cells #[.int .i64 a1_0, .int .i64 a1_1, .int .i64 a1_2] 58 (0, 0)) (Bm BK552.out) hb); replace BK553 := jA (jN (g := gb553) (o := .cells #[.slice none 0 0] 52 (0, 0)) (Bm BK553.out) hb); replace HB := jA (jB Ub hb); clear hb; have hcz18_0 : w17.cell? ⟨gb551, 0, none⟩ = some (.slice A0_0 l0_0.length c0_0) := (jE BK551.out 0).trans rfl; have hfz18_0 := jF BK551.out 0; have hcz19_0 : w17.cell? ⟨gb553, 0, none⟩ = some (.slice none 0 0) := (jE BK553.out 0).trans rfl; have hfz19_0 := jF BK553.out 0))
       refine bodyPost_ret (results_ct rfl _ _ gb553 52 #[.slice none 0 0] (0, 0) _ rfl (by (with_reducible repeat refine Xg ?_); refine jp (cs := #[.slice none 0 0]) ?_ 0 _ rfl; (with_reducible repeat refine Xg ?_); exact BK553.out) Try.underlying52 rfl (by kernel_rfl)) rfl ?_
       exact ⟨_, Re, Nl, Ub⟩
     have c7b0 : ((l0_0.length : Int) == 6) = false := beq_eq_false_iff_ne.mpr c7
     have c7b1 := bne_iff_ne.mpr c7
     obtain ⟨y556, hy556⟩ : ∃ y_ : List (S58), y_ = (([] : List (S58))) := ⟨_, rfl⟩
     replace H : (if y556.length + l0_0.length < 5864062014805 then ((some (y556 ++ l0_0 : List (S58))).bind fun y559 => ((some (([(⟨a1_0, a1_1, a1_2⟩ : S58)] : List (S58)) : List (S58))).bind fun y562 => (if y559.length + y562.length < 5864062014805 then (some ((y559 ++ y562), true)) else (none)))) else (none)) = some (r1, r2) := by first | (rw [hy556]; with_reducible exact H) | (have H2_ := (Option.bind_some _ _).symm.trans H; rw [hy556]; with_reducible exact H2_) | (have H2_ := (Option.bind_some _ _).symm.trans H; with_reducible exact H2_) | with_reducible exact H | (rw [hy556]; exact H) | exact H
     have Ny556 := jA hy556
     clear hy556
     replace H := Ip H; obtain ⟨c20, H⟩ := H
     have LMc20 := jA c20
     clear c20
     obtain ⟨y559, hy559⟩ : ∃ y_ : List (S58), y_ = (y556 ++ l0_0) := ⟨_, rfl⟩
     replace H : ((some (([(⟨a1_0, a1_1, a1_2⟩ : S58)] : List (S58)) : List (S58))).bind fun y562 => (if y559.length + y562.length < 5864062014805 then (some ((y559 ++ y562), true)) else (none))) = some (r1, r2) := by first | (rw [hy559]; with_reducible exact H) | (have H2_ := (Option.bind_some _ _).symm.trans H; rw [hy559]; with_reducible exact H2_) | (have H2_ := (Option.bind_some _ _).symm.trans H; with_reducible exact H2_) | with_reducible exact H | (rw [hy559]; exact H) | exact H
     have Ny559 := jA hy559
     clear hy559
     obtain ⟨y562, hy562⟩ : ∃ y_ : List (S58), y_ = (([(⟨a1_0, a1_1, a1_2⟩ : S58)] : List (S58))) := ⟨_, rfl⟩
     replace H : (if y559.length + y562.length < 5864062014805 then (some ((y559 ++ y562), true)) else (none)) = some (r1, r2) := by first | (rw [hy562]; with_reducible exact H) | (have H2_ := (Option.bind_some _ _).symm.trans H; rw [hy562]; with_reducible exact H2_) | (have H2_ := (Option.bind_some _ _).symm.trans H; with_reducible exact H2_) | with_reducible exact H | (rw [hy562]; exact H) | exact H
     have Ny562 := jA hy562
     clear hy562
     replace H := Ip H; obtain ⟨c21, H⟩ := H
     have LMc21 := jA c21
     clear c21
     obtain ⟨y565, hy565⟩ : ∃ y_ : List (S58), y_ = (y559 ++ y562) := ⟨_, rfl⟩
     replace H : (some (y565, true)) = some (r1, r2) := by first | (rw [hy565]; with_reducible exact H) | (have H2_ := (Option.bind_some _ _).symm.trans H; rw [hy565]; with_reducible exact H2_) | (have H2_ := (Option.bind_some _ _).symm.trans H; with_reducible exact H2_) | with_reducible exact H | (rw [hy565]; exact H) | exact H
     have Ny565 := jA hy565
     clear hy565
     simp only [Option.some.injEq, Prod.mk.injEq] at H
     obtain ⟨rfl, rfl⟩ := H
     go_enter Try.func94, Try.ntmps94
     try go_wp2_with (first | ((with_reducible refine gate_dst (N := 2) rfl ?_); (try (refine gate_guard (by rfl) ?_; dsimp only)); refine box_event ?hg (N := 2) ?hd (cs := #[.slice A0_0 l0_0.length c0_0]) (t := 52) ?hr ?_; (case hd => rfl); (case hg => rfl); (case hr => first | (go_simp; done) | (go_simp; rfl)); intro gb551 hg w22 hbox hb; have BK551 := jA (hbox); have GW551 := jA ((by rw [hg]; exact (jL Ub) : w.heap.size ≤ gb551)); have GE551 := jA ((by rw [hg]; exact (jL Ub) : w.heap.size ≤ gb551)); replace HB := jA (jB Ub hb); clear hb hbox hg) | ((with_reducible refine gate_dst (N := 3) rfl ?_); (try (refine gate_guard (by rfl) ?_; dsimp only)); refine box_event ?hg (N := 3) ?hd (cs := #[.int .i64 a1_0, .int .i64 a1_1, .int .i64 a1_2]) (t := 58) ?hr ?_; (case hd => rfl); (case hg => rfl); (case hr => first | (go_simp; done) | (go_simp; rfl)); intro gb552 hg w23 hbox hb; have BK552 := jA (hbox); have GW552 := jA ((by rw [hg]; exact (jL Ub) : w.heap.size ≤ gb552)); have GE552 := jA ((by rw [hg]; exact (jL Ub) : w.heap.size ≤ gb552)); replace HB := jA (jB Ub hb); have NB551_552 := jA ((by rw [hg]; exact jZ (blk_lt (g := gb551) (o := .cells #[.slice A0_0 l0_0.length c0_0] 52 (0, 0)) (Bm BK551.out)) : gb551 ≠ gb552)); have NB552_551 := jA ((by rw [hg]; exact ja (blk_lt (g := gb551) (o := .cells #[.slice A0_0 l0_0.length c0_0] 52 (0, 0)) (Bm BK551.out)) : gb552 ≠ gb551)); replace BK551 := jA (jN (g := gb551) (o := .cells #[.slice A0_0 l0_0.length c0_0] 52 (0, 0)) (Bm BK551.out) hb); clear hb hbox hg) | ((with_reducible refine gate_dst (N := 4) rfl ?_); (try (refine gate_guard (by rfl) ?_; dsimp only)); refine box_event ?hg (N := 4) ?hd (cs := #[.slice none 0 0]) (t := 52) ?hr ?_; (case hd => rfl); (case hg => rfl); (case hr => first | (go_simp; done) | (go_simp; rfl)); intro gb553 hg w24 hbox hb; have BK553 := jA (hbox); have GW553 := jA ((by rw [hg]; exact (jL Ub) : w.heap.size ≤ gb553)); have GE553 := jA ((by rw [hg]; exact (jL Ub) : w.heap.size ≤ gb553)); replace HB := jA (jB Ub hb); have NB551_553 := jA ((by rw [hg]; exact jZ (blk_lt (g := gb551) (o := .cells #[.slice A0_0 l0_0.length c0_0] 52 (0, 0)) (Bm BK551.out)) : gb551 ≠ gb553)); have NB553_551 := jA ((by rw [hg]; exact ja (blk_lt (g := gb551) (o := .cells #[.slice A0_0 l0_0.length c0_0] 52 (0, 0)) (Bm BK551.out)) : gb553 ≠ gb551)); replace BK551 := jA (jN (g := gb551) (o := .cells #[.slice A0_0 l0_0.length c0_0] 52 (0, 0)) (Bm BK551.out) hb); have NB552_553 := jA ((by rw [hg]; exact jZ (blk_lt (g := gb552) (o := .cells #[.int .i64 a1_0, .int .i64 a1_1, .int .i64 a1_2] 58 (0, 0)) (Bm BK552.out)) : gb552 ≠ gb553)); have NB553_552 := jA ((by rw [hg]; exact ja (blk_lt (g := gb552) (o := .cells #[.int .i64 a1_0, .int .i64 a1_1, .int .i64 a1_2] 58 (0, 0)) (Bm BK552.out)) : gb553 ≠ gb552)); replace BK552 := jA (jN (g := gb552) (o := .cells #[.int .i64 a1_0, .int .i64 a1_1, .int .i64 a1_2] 58 (0, 0)) (Bm BK552.out) hb); clear hb hbox hg; have hnb25 := NB551_552.out; have hnc25 := NB552_551.out; have hnb26 := NB551_553.out; have hnc26 := NB553_551.out; have hcz27_0 : w24.cell? ⟨gb551, 0, none⟩ = some (.slice A0_0 l0_0.length c0_0) := (jE BK551.out 0).trans rfl; have hfz27_0 := jF BK551.out 0) | (refine Gl 7 #[.agg #[.slice A0_0 l0_0.length c0_0]] Try.func226 ?_; (with_reducible refine (spec_pzGood.calls k _ _ l0_0 true _ (Cm (jY HR0_0.out HB.out)) HC0_0.out A3.out).mono ?_); rintro e w28 ⟨rfl, hb⟩; refine ⟨_, rfl, ?_⟩; replace BK551 := jA (jN (g := gb551) (o := .cells #[.slice A0_0 l0_0.length c0_0] 52 (0, 0)) (Bm BK551.out) hb); replace BK552 := jA (jN (g := gb552) (o := .cells #[.int .i64 a1_0, .int .i64 a1_1, .int .i64 a1_2] 58 (0, 0)) (Bm BK552.out) hb); replace BK553 := jA (jN (g := gb553) (o := .cells #[.slice none 0 0] 52 (0, 0)) (Bm BK553.out) hb); replace HB := jA (jB Ub hb); clear hb; have hnb29 := NB552_553.out; have hnc29 := NB553_552.out; have hcz30_0 : w28.cell? ⟨gb552, 0, none⟩ = some (.int .i64 a1_0) := (jE BK552.out 0).trans rfl; have hcz30_1 : w28.cell? ⟨gb552, 1, none⟩ = some (.int .i64 a1_1) := (jE BK552.out 1).trans rfl; have hcz30_2 : w28.cell? ⟨gb552, 2, none⟩ = some (.int .i64 a1_2) := (jE BK552.out 2).trans rfl; have hfz30_0 := jF BK552.out 0; have hfz30_1 := jF BK552.out 1; have hfz30_2 := jF BK552.out 2) | (go_at_call 231; (with_reducible refine (spec_pzClue.calls k a1_0 a1_1 a1_2 true _ A5.out).mono ?_); rintro e w31 ⟨rfl, hb⟩; replace BK551 := jA (jN (g := gb551) (o := .cells #[.slice A0_0 l0_0.length c0_0] 52 (0, 0)) (Bm BK551.out) hb); replace BK552 := jA (jN (g := gb552) (o := .cells #[.int .i64 a1_0, .int .i64 a1_1, .int .i64 a1_2] 58 (0, 0)) (Bm BK552.out) hb); replace BK553 := jA (jN (g := gb553) (o := .cells #[.slice none 0 0] 52 (0, 0)) (Bm BK553.out) hb); replace HB := jA (jB Ub hb); clear hb; have hcz32_0 : w31.cell? ⟨gb551, 0, none⟩ = some (.slice A0_0 l0_0.length c0_0) := (jE BK551.out 0).trans rfl; have hfz32_0 := jF BK551.out 0))
     replace BK551 := jA (jR BK551.out); replace BK552 := jA (jR BK552.out); replace BK553 := jA (jR BK553.out); replace HB := jA (jQ HB.out)
     refine start_ (n := 10) (S := fun w' => w'.cell? ⟨gb551, 0, none⟩ = some (.slice A0_0 l0_0.length c0_0) ∧ w'.cell? ⟨gb552, 0, none⟩ = some (.int .i64 a1_0) ∧ w'.cell? ⟨gb552, 1, none⟩ = some (.int .i64 a1_1) ∧ w'.cell? ⟨gb552, 2, none⟩ = some (.int .i64 a1_2)) (ds := []) #[false, false, false, false, false, false, false, false, false, false] (by kernel_rfl) rfl rfl ⟨(jE BK551.out 0).trans rfl, (jE BK552.out 0).trans rfl, (jE BK552.out 1).trans rfl, (jE BK552.out 2).trans rfl⟩ (fun hHeld => ?_); refine with_tabW spec_AddClue.tab3 spec_AddClue.bits3 (fun HT_ HW_ => ?_)
     generalize w31.drew = w33 at BK551 BK552 BK553 HB hHeld ⊢
     refine Pu 1 22 #[false, true, false, false, false, false, false, false, false, false] HT_.out ?_
     refine take_ (i := 2) (N := some 23) (v := ?_) (a' := ?_) #[false, true, true, false, false, false, false, false, false, false] rfl rfl (take_ofW HT_.out HW_.out (by kernel_rfl)) (fun _ _ _ h => h) (Or.inl ⟨by rfl, ?_⟩) hHeld ?_ ?_
     rotate_left
     · rintro w' ⟨s0, s1, s2, s3⟩
       go_simp
       with_reducible rfl
     rotate_left
     · simp only [Act.put, List.setIfInBounds_toArray, List.set_cons_zero, List.set_cons_succ, i64_w, i32_w]
       rfl
     refine take_ (i := 4) (N := some 25) (v := ?_) (a' := ?_) #[false, true, true, false, true, false, false, false, false, false] rfl rfl (take_ofW HT_.out HW_.out (by kernel_rfl)) (fun _ _ _ h => h) (Or.inl ⟨by rfl, ?_⟩) hHeld ?_ ?_
     rotate_left
     · rintro w' ⟨s0, s1, s2, s3⟩
       go_simp
       with_reducible rfl
     rotate_left
     · simp only [Act.put, List.setIfInBounds_toArray, List.set_cons_zero, List.set_cons_succ, i64_w, i32_w]
       rfl
     refine join_ (σ := Value × Value × Value) 4 #[true, true, true, true, true, true, false, false, false, false] (fun s_ => [(21, s_.1), (24, s_.2.1), (26, s_.2.2)]) (fun s_ w' => (w'.cell? ⟨gb551, 0, none⟩ = some (.slice A0_0 l0_0.length c0_0) ∧ w'.cell? ⟨gb552, 0, none⟩ = some (.int .i64 a1_0) ∧ w'.cell? ⟨gb552, 1, none⟩ = some (.int .i64 a1_1) ∧ w'.cell? ⟨gb552, 2, none⟩ = some (.int .i64 a1_2)) ∧ (Kd.R k58 58 w' w.heap.size (fun k_ => some k_ ≠ (s_.2.2 : Value).ownBlock ∧ k_ ≠ gb552) s_.2.1 y559) ∧ (Kd.R k58 58 w' w.heap.size (fun k_ => some k_ ≠ (s_.2.1 : Value).ownBlock ∧ k_ ≠ gb552) s_.2.2 y562) ∧ (w'.heap[gb551]? = some (.cells #[.slice A0_0 l0_0.length c0_0] 52 (0, 0))) ∧ (w'.heap[gb552]? = some (.cells #[.int .i64 a1_0, .int .i64 a1_1, .int .i64 a1_2] 58 (0, 0))) ∧ (w'.heap[gb553]? = some (.cells #[.slice none 0 0] 52 (0, 0))) ∧ (Below w.heap.size w w')) ?_ ?_
     rotate_left
     · intro hCont
       refine two_ (i := 0) (j := 5) (Ni := some 21) (Nj := some 26) #[true, true, true, false, true, false, false, false, false, false] #[false, true, true, false, true, true, false, false, false, false] rfl rfl rfl rfl (two_of HT_.out (by kernel_rfl)) (by decide) (by decide) (fun K hK => ?_) (fun K hK => ?_)
       · skip
         refine Kd.R_lit_step k58 _ 58 ?hg (N := 21) ?hd (xs := ([] : List (S58))) (inner := []) (ok := fun _ => True) (okp := fun _ => True) ?hr ?hp (fun _ hk => hk) trivial (jU _ _) (jX _) (by simp) ?_; (case hd => rfl); (case hg => rfl); (case hr => first | (go_simp; done) | (go_simp; rfl)); (case hp => exact (Reps.none _ _))
         intro v557 w34 ho35 hb hg_ hnew_
         clear hg_ hnew_
         (first | rw [← Ny556.out] at ho35 | (simp only [Int.reduceToNat] at ho35; rw [← Ny556.out] at ho35))
         have n0_ := jA (jf (Kd.R_newB ho35 (g := gb552) (o := .cells #[.int .i64 a1_0, .int .i64 a1_1, .int .i64 a1_2] 58 (0, 0)) (Bm BK552.out)) (jL Ub)); have n1_ := jA (jN (g := gb551) (o := .cells #[.slice A0_0 l0_0.length c0_0] 52 (0, 0)) (Bm BK551.out) hb); have n2_ := jA (jN (g := gb552) (o := .cells #[.int .i64 a1_0, .int .i64 a1_1, .int .i64 a1_2] 58 (0, 0)) (Bm BK552.out) hb); have n3_ := jA (jN (g := gb553) (o := .cells #[.slice none 0 0] 52 (0, 0)) (Bm BK553.out) hb); have n4_ := jA (jB Ub hb); clear BK551 BK552 BK553 HB; have HO558 := n0_; have BK551 := n1_; have BK552 := n2_; have BK553 := n3_; have HB := n4_; clear n0_ n1_ n2_ n3_ n4_ hb ho35
         refine hK.out _ _ ⟨(jE BK551.out 0).trans rfl, (jE BK552.out 0).trans rfl, (jE BK552.out 1).trans rfl, (jE BK552.out 2).trans rfl⟩ (fun hHeld => ?_)
         clear hK K
         refine norm_ (a' := ?_) ?_ ?_
         rotate_left
         · show Act.put _ (some 21) _ = _
           simp only [Act.put, List.setIfInBounds_toArray, List.set_cons_zero, List.set_cons_succ, i64_w, i32_w]
           rfl
         refine two_ (i := 3) (j := 5) (Ni := some 24) (Nj := some 26) #[true, true, true, true, true, false, false, false, false, false] #[true, true, true, false, true, true, false, false, false, false] rfl rfl rfl rfl (two_of HT_.out (by kernel_rfl)) (by decide) (by decide) (fun K hK => ?_) (fun K hK => ?_)
         · skip
           refine Kd.R_append_rows_step k58 (w0 := w) w.heap.size (by rfl) (.tmp 21) (.tmp 23) 50 58 (.agg #[(.int .i64 0), (.int .i64 0), (.int .i64 0)]) 24 rfl Try.underlying50 info58 rfl (by decide) (by omega) v557 y556 l0_0 _ _ _ (fun k_ => k_ ≠ gb552) (fun _ => False) rfl rfl ?aO ?aR (fun _ _ h => h) (fun _ h => h.elim) ?aF ?aB ?aS ?aL ?_
           (case aR => repeat (first | exact (jY HR0_0.out HB.out) | (with_reducible refine Xc ?_)))
           (case aB => exact Ub)
           (case aF => exact (fun k_ hk => Kd.freshB (g := gb552) (o := .cells #[.int .i64 a1_0, .int .i64 a1_1, .int .i64 a1_2] 58 (0, 0)) (Bm BK552.out) k_ hk))
           (case aO => exact (by (with_reducible repeat apply Xq); exact jW HO558.out (fun _ hk => hk.2)))
           (case aS => exact (jL Ub))
           (case aL => have := LMc20.out; omega)
           intro v560 w36 ho hb hg hat
           rw [← Ny559.out] at ho
           have n0_ := jA (js (g := gb551) (o := .cells #[.slice A0_0 l0_0.length c0_0] 52 (0, 0)) (Bm BK551.out) hg (Kd.R_ne HO558.out BK551.out (by decide))); have n1_ := jA (js (g := gb552) (o := .cells #[.int .i64 a1_0, .int .i64 a1_1, .int .i64 a1_2] 58 (0, 0)) (Bm BK552.out) hg (Kd.R_away HO558.out (fun _ hk => hk.2))); have n2_ := jA (js (g := gb553) (o := .cells #[.slice none 0 0] 52 (0, 0)) (Bm BK553.out) hg (Kd.R_ne HO558.out BK553.out (by decide))); have n3_ := jA (hb); have n4_ := jA (ho); clear BK551 BK552 BK553 HB HO558; have BK551 := n0_; have BK552 := n1_; have BK553 := n2_; have HB := n3_; have HO561 := n4_; clear n0_ n1_ n2_ n3_ n4_ ho hb hg hat
           refine hK.out _ _ ⟨(jE BK551.out 0).trans rfl, (jE BK552.out 0).trans rfl, (jE BK552.out 1).trans rfl, (jE BK552.out 2).trans rfl⟩ (fun hHeld => ?_)
           clear hK K
           refine norm_ (a' := ?_) ?_ ?_
           rotate_left
           · show Act.put _ (some 24) _ = _
             simp only [Act.put, List.setIfInBounds_toArray, List.set_cons_zero, List.set_cons_succ, i64_w, i32_w]
             rfl
           refine one_ (i := 5) (N := some 26) #[true, true, true, true, true, true, false, false, false, false] rfl rfl (one_of HT_.out (by kernel_rfl)) (by decide) (fun K hK => ?_)
           refine Kd.R_lit_step k58 _ 58 ?hg (N := 26) ?hd (xs := ([(⟨a1_0, a1_1, a1_2⟩ : S58)] : List (S58))) (inner := [.int .i64 a1_0, .int .i64 a1_1, .int .i64 a1_2]) (ok := fun _ => True) (okp := fun _ => True) ?hr ?hp (fun _ hk => hk) trivial (jU _ _) (jX _) (by simp) ?_; (case hd => rfl); (case hg => rfl); (case hr => first | (go_simp; done) | (go_simp; rfl)); (case hp => exact (Reps.c3 (show Kd.M k58 _ _ _ (⟨a1_0, a1_1, a1_2⟩ : S58) [.int .i64 a1_0, .int .i64 a1_1, .int .i64 a1_2] from (k58_mkM _ _ _ (⟨a1_0, a1_1, a1_2⟩ : S58) )) (Reps.none _ _)))
           intro v563 w37 ho38 hb hg_ hnew_
           clear hg_ hnew_
           (first | rw [← Ny562.out] at ho38 | (simp only [Int.reduceToNat] at ho38; rw [← Ny562.out] at ho38))
           have n0_ := jA (Kd.R_elder' (Rm HO561.out) (Kd.R_base ho38) hb); have n1_ := jA (jf (Kd.R_newB (Kd.R_new' ho38 (jr (Rm HO561.out))) (g := gb552) (o := .cells #[.int .i64 a1_0, .int .i64 a1_1, .int .i64 a1_2] 58 (0, 0)) (Bm BK552.out)) (jL Ub)); have n2_ := jA (jN (g := gb551) (o := .cells #[.slice A0_0 l0_0.length c0_0] 52 (0, 0)) (Bm BK551.out) hb); have n3_ := jA (jN (g := gb552) (o := .cells #[.int .i64 a1_0, .int .i64 a1_1, .int .i64 a1_2] 58 (0, 0)) (Bm BK552.out) hb); have n4_ := jA (jN (g := gb553) (o := .cells #[.slice none 0 0] 52 (0, 0)) (Bm BK553.out) hb); have n5_ := jA (jB Ub hb); clear HO561 BK551 BK552 BK553 HB; have HO561 := n0_; have HO564 := n1_; have BK551 := n2_; have BK552 := n3_; have BK553 := n4_; have HB := n5_; clear n0_ n1_ n2_ n3_ n4_ n5_ hb ho38
           refine hK.out _ _ ⟨(jE BK551.out 0).trans rfl, (jE BK552.out 0).trans rfl, (jE BK552.out 1).trans rfl, (jE BK552.out 2).trans rfl⟩ (fun hHeld => ?_)
           clear hK K
           refine norm_ (a' := ?_) ?_ ?_
           rotate_left
           · show Act.put _ (some 26) _ = _
             simp only [Act.put, List.setIfInBounds_toArray, List.set_cons_zero, List.set_cons_succ, i64_w, i32_w]
             rfl
           exact norm_ (by simp only [putAll, Act.put, List.setIfInBounds_toArray, List.set_cons_zero, List.set_cons_succ]) (hCont (v557, v560, v563) _ ⟨hHeld, (by (with_reducible repeat apply Xq); exact jW HO561.out (fun _ hk => ⟨hk.2, hk.1⟩)), (by (with_reducible repeat apply Xq); exact jW HO564.out (fun _ hk => ⟨hk.1.2, hk.2⟩)), (Bm BK551.out), (Bm BK552.out), (Bm BK553.out), Ub⟩)
         skip
         refine Kd.R_lit_step k58 _ 58 ?hg (N := 26) ?hd (xs := ([(⟨a1_0, a1_1, a1_2⟩ : S58)] : List (S58))) (inner := [.int .i64 a1_0, .int .i64 a1_1, .int .i64 a1_2]) (ok := fun _ => True) (okp := fun _ => True) ?hr ?hp (fun _ hk => hk) trivial (jU _ _) (jX _) (by simp) ?_; (case hd => rfl); (case hg => rfl); (case hr => first | (go_simp; done) | (go_simp; rfl)); (case hp => exact (Reps.c3 (show Kd.M k58 _ _ _ (⟨a1_0, a1_1, a1_2⟩ : S58) [.int .i64 a1_0, .int .i64 a1_1, .int .i64 a1_2] from (k58_mkM _ _ _ (⟨a1_0, a1_1, a1_2⟩ : S58) )) (Reps.none _ _)))
         intro v563 w36 ho37 hb hg_ hnew_
         clear hg_ hnew_
         (first | rw [← Ny562.out] at ho37 | (simp only [Int.reduceToNat] at ho37; rw [← Ny562.out] at ho37))
         have n0_ := jA (Kd.R_elder' (Rm HO558.out) (Kd.R_base ho37) hb); have n1_ := jA (jf (Kd.R_newB (Kd.R_new' ho37 (jr (Rm HO558.out))) (g := gb552) (o := .cells #[.int .i64 a1_0, .int .i64 a1_1, .int .i64 a1_2] 58 (0, 0)) (Bm BK552.out)) (jL Ub)); have n2_ := jA (jN (g := gb551) (o := .cells #[.slice A0_0 l0_0.length c0_0] 52 (0, 0)) (Bm BK551.out) hb); have n3_ := jA (jN (g := gb552) (o := .cells #[.int .i64 a1_0, .int .i64 a1_1, .int .i64 a1_2] 58 (0, 0)) (Bm BK552.out) hb); have n4_ := jA (jN (g := gb553) (o := .cells #[.slice none 0 0] 52 (0, 0)) (Bm BK553.out) hb); have n5_ := jA (jB Ub hb); clear HO558 BK551 BK552 BK553 HB; have HO558 := n0_; have HO564 := n1_; have BK551 := n2_; have BK552 := n3_; have BK553 := n4_; have HB := n5_; clear n0_ n1_ n2_ n3_ n4_ n5_ hb ho37
         refine hK.out _ _ ⟨(jE BK551.out 0).trans rfl, (jE BK552.out 0).trans rfl, (jE BK552.out 1).trans rfl, (jE BK552.out 2).trans rfl⟩ (fun hHeld => ?_)
         clear hK K
         refine norm_ (a' := ?_) ?_ ?_
         rotate_left
         · show Act.put _ (some 26) _ = _
           simp only [Act.put, List.setIfInBounds_toArray, List.set_cons_zero, List.set_cons_succ, i64_w, i32_w]
           rfl
         refine one_ (i := 3) (N := some 24) #[true, true, true, true, true, true, false, false, false, false] rfl rfl (one_of HT_.out (by kernel_rfl)) (by decide) (fun K hK => ?_)
         refine Kd.R_append_rows_step k58 (w0 := w) w.heap.size (by rfl) (.tmp 21) (.tmp 23) 50 58 (.agg #[(.int .i64 0), (.int .i64 0), (.int .i64 0)]) 24 rfl Try.underlying50 info58 rfl (by decide) (by omega) v557 y556 l0_0 _ _ _ (fun k_ => some k_ ≠ (v563 : Value).ownBlock ∧ k_ ≠ gb552) (fun _ => False) rfl rfl ?aO ?aR (fun _ _ h => h) (fun _ h => h.elim) ?aF ?aB ?aS ?aL ?_
         (case aR => repeat (first | exact (jY HR0_0.out HB.out) | (with_reducible refine Xc ?_)))
         (case aB => exact Ub)
         (case aF => exact (fun k_ hk => ⟨Kd.fresh' (jr (Rm HO564.out)) k_ hk, Kd.freshB (g := gb552) (o := .cells #[.int .i64 a1_0, .int .i64 a1_1, .int .i64 a1_2] 58 (0, 0)) (Bm BK552.out) k_ hk⟩))
         (case aO => exact (by (with_reducible repeat apply Xq); exact jW HO558.out (fun _ hk => ⟨hk.2, hk.1.2⟩)))
         (case aS => exact (jL Ub))
         (case aL => have := LMc20.out; omega)
         intro v560 w38 ho hb hg hat
         rw [← Ny559.out] at ho
         have n0_ := jA (js (g := gb551) (o := .cells #[.slice A0_0 l0_0.length c0_0] 52 (0, 0)) (Bm BK551.out) hg (Kd.R_ne HO558.out BK551.out (by decide))); have n1_ := jA (js (g := gb552) (o := .cells #[.int .i64 a1_0, .int .i64 a1_1, .int .i64 a1_2] 58 (0, 0)) (Bm BK552.out) hg (Kd.R_away HO558.out (fun _ hk => hk.1.2))); have n2_ := jA (js (g := gb553) (o := .cells #[.slice none 0 0] 52 (0, 0)) (Bm BK553.out) hg (Kd.R_ne HO558.out BK553.out (by decide))); have n3_ := jA (Kd.R_after (ok := (fun k_ => k_ ≠ gb552)) (by (with_reducible repeat apply Xq); exact jW HO564.out (fun _ hk => ⟨hk.2, hk.1.2⟩)) hg hat); have n4_ := jA (hb); have n5_ := jA (ho); clear BK551 BK552 BK553 HO564 HB HO558; have BK551 := n0_; have BK552 := n1_; have BK553 := n2_; have HO564 := n3_; have HB := n4_; have HO561 := n5_; clear n0_ n1_ n2_ n3_ n4_ n5_ ho hb hg hat
         refine hK.out _ _ ⟨(jE BK551.out 0).trans rfl, (jE BK552.out 0).trans rfl, (jE BK552.out 1).trans rfl, (jE BK552.out 2).trans rfl⟩ (fun hHeld => ?_)
         clear hK K
         refine norm_ (a' := ?_) ?_ ?_
         rotate_left
         · show Act.put _ (some 24) _ = _
           simp only [Act.put, List.setIfInBounds_toArray, List.set_cons_zero, List.set_cons_succ, i64_w, i32_w]
           rfl
         exact norm_ (by simp only [putAll, Act.put, List.setIfInBounds_toArray, List.set_cons_zero, List.set_cons_succ]) (hCont (v557, v560, v563) _ ⟨hHeld, (Rm HO561.out), (by (with_reducible repeat apply Xq); exact jW HO564.out (fun _ hk => ⟨hk.2, hk.1⟩)), (Bm BK551.out), (Bm BK552.out), (Bm BK553.out), Ub⟩)
       skip
       refine Kd.R_lit_step k58 _ 58 ?hg (N := 26) ?hd (xs := ([(⟨a1_0, a1_1, a1_2⟩ : S58)] : List (S58))) (inner := [.int .i64 a1_0, .int .i64 a1_1, .int .i64 a1_2]) (ok := fun _ => True) (okp := fun _ => True) ?hr ?hp (fun _ hk => hk) trivial (jU _ _) (jX _) (by simp) ?_; (case hd => rfl); (case hg => rfl); (case hr => first | (go_simp; done) | (go_simp; rfl)); (case hp => exact (Reps.c3 (show Kd.M k58 _ _ _ (⟨a1_0, a1_1, a1_2⟩ : S58) [.int .i64 a1_0, .int .i64 a1_1, .int .i64 a1_2] from (k58_mkM _ _ _ (⟨a1_0, a1_1, a1_2⟩ : S58) )) (Reps.none _ _)))
       intro v563 w34 ho35 hb hg_ hnew_
       clear hg_ hnew_
       (first | rw [← Ny562.out] at ho35 | (simp only [Int.reduceToNat] at ho35; rw [← Ny562.out] at ho35))
       have n0_ := jA (jf (Kd.R_newB ho35 (g := gb552) (o := .cells #[.int .i64 a1_0, .int .i64 a1_1, .int .i64 a1_2] 58 (0, 0)) (Bm BK552.out)) (jL Ub)); have n1_ := jA (jN (g := gb551) (o := .cells #[.slice A0_0 l0_0.length c0_0] 52 (0, 0)) (Bm BK551.out) hb); have n2_ := jA (jN (g := gb552) (o := .cells #[.int .i64 a1_0, .int .i64 a1_1, .int .i64 a1_2] 58 (0, 0)) (Bm BK552.out) hb); have n3_ := jA (jN (g := gb553) (o := .cells #[.slice none 0 0] 52 (0, 0)) (Bm BK553.out) hb); have n4_ := jA (jB Ub hb); clear BK551 BK552 BK553 HB; have HO564 := n0_; have BK551 := n1_; have BK552 := n2_; have BK553 := n3_; have HB := n4_; clear n0_ n1_ n2_ n3_ n4_ hb ho35
       refine hK.out _ _ ⟨(jE BK551.out 0).trans rfl, (jE BK552.out 0).trans rfl, (jE BK552.out 1).trans rfl, (jE BK552.out 2).trans rfl⟩ (fun hHeld => ?_)
       clear hK K
       refine norm_ (a' := ?_) ?_ ?_
       rotate_left
       · show Act.put _ (some 26) _ = _
         simp only [Act.put, List.setIfInBounds_toArray, List.set_cons_zero, List.set_cons_succ, i64_w, i32_w]
         rfl
       refine one_ (i := 0) (N := some 21) #[true, true, true, false, true, true, false, false, false, false] rfl rfl (one_of HT_.out (by kernel_rfl)) (by decide) (fun K hK => ?_)
       refine Kd.R_lit_step k58 _ 58 ?hg (N := 21) ?hd (xs := ([] : List (S58))) (inner := []) (ok := fun _ => True) (okp := fun _ => True) ?hr ?hp (fun _ hk => hk) trivial (jU _ _) (jX _) (by simp) ?_; (case hd => rfl); (case hg => rfl); (case hr => first | (go_simp; done) | (go_simp; rfl)); (case hp => exact (Reps.none _ _))
       intro v557 w36 ho37 hb hg_ hnew_
       clear hg_ hnew_
       (first | rw [← Ny556.out] at ho37 | (simp only [Int.reduceToNat] at ho37; rw [← Ny556.out] at ho37))
       have n0_ := jA (Kd.R_elder' (Rm HO564.out) (Kd.R_base ho37) hb); have n1_ := jA (jf (Kd.R_newB (Kd.R_new' ho37 (jr (Rm HO564.out))) (g := gb552) (o := .cells #[.int .i64 a1_0, .int .i64 a1_1, .int .i64 a1_2] 58 (0, 0)) (Bm BK552.out)) (jL Ub)); have n2_ := jA (jN (g := gb551) (o := .cells #[.slice A0_0 l0_0.length c0_0] 52 (0, 0)) (Bm BK551.out) hb); have n3_ := jA (jN (g := gb552) (o := .cells #[.int .i64 a1_0, .int .i64 a1_1, .int .i64 a1_2] 58 (0, 0)) (Bm BK552.out) hb); have n4_ := jA (jN (g := gb553) (o := .cells #[.slice none 0 0] 52 (0, 0)) (Bm BK553.out) hb); have n5_ := jA (jB Ub hb); clear HO564 BK551 BK552 BK553 HB; have HO564 := n0_; have HO558 := n1_; have BK551 := n2_; have BK552 := n3_; have BK553 := n4_; have HB := n5_; clear n0_ n1_ n2_ n3_ n4_ n5_ hb ho37
       refine hK.out _ _ ⟨(jE BK551.out 0).trans rfl, (jE BK552.out 0).trans rfl, (jE BK552.out 1).trans rfl, (jE BK552.out 2).trans rfl⟩ (fun hHeld => ?_)
       clear hK K
       refine norm_ (a' := ?_) ?_ ?_
       rotate_left
       · show Act.put _ (some 21) _ = _
         simp only [Act.put, List.setIfInBounds_toArray, List.set_cons_zero, List.set_cons_succ, i64_w, i32_w]
         rfl
       refine one_ (i := 3) (N := some 24) #[true, true, true, true, true, true, false, false, false, false] rfl rfl (one_of HT_.out (by kernel_rfl)) (by decide) (fun K hK => ?_)
       refine Kd.R_append_rows_step k58 (w0 := w) w.heap.size (by rfl) (.tmp 21) (.tmp 23) 50 58 (.agg #[(.int .i64 0), (.int .i64 0), (.int .i64 0)]) 24 rfl Try.underlying50 info58 rfl (by decide) (by omega) v557 y556 l0_0 _ _ _ (fun k_ => some k_ ≠ (v563 : Value).ownBlock ∧ k_ ≠ gb552) (fun _ => False) rfl rfl ?aO ?aR (fun _ _ h => h) (fun _ h => h.elim) ?aF ?aB ?aS ?aL ?_
       (case aR => repeat (first | exact (jY HR0_0.out HB.out) | (with_reducible refine Xc ?_)))
       (case aB => exact Ub)
       (case aF => exact (fun k_ hk => ⟨Kd.fresh' (jr (Rm HO564.out)) k_ hk, Kd.freshB (g := gb552) (o := .cells #[.int .i64 a1_0, .int .i64 a1_1, .int .i64 a1_2] 58 (0, 0)) (Bm BK552.out) k_ hk⟩))
       (case aO => exact (by (with_reducible repeat apply Xq); exact jW HO558.out (fun _ hk => ⟨hk.1.2, hk.2⟩)))
       (case aS => exact (jL Ub))
       (case aL => have := LMc20.out; omega)
       intro v560 w38 ho hb hg hat
       rw [← Ny559.out] at ho
       have n0_ := jA (js (g := gb551) (o := .cells #[.slice A0_0 l0_0.length c0_0] 52 (0, 0)) (Bm BK551.out) hg (Kd.R_ne HO558.out BK551.out (by decide))); have n1_ := jA (js (g := gb552) (o := .cells #[.int .i64 a1_0, .int .i64 a1_1, .int .i64 a1_2] 58 (0, 0)) (Bm BK552.out) hg (Kd.R_away HO558.out (fun _ hk => hk.2))); have n2_ := jA (js (g := gb553) (o := .cells #[.slice none 0 0] 52 (0, 0)) (Bm BK553.out) hg (Kd.R_ne HO558.out BK553.out (by decide))); have n3_ := jA (Kd.R_after (ok := (fun k_ => k_ ≠ gb552)) (by (with_reducible repeat apply Xq); exact jW HO564.out (fun _ hk => ⟨hk.1.2, hk.2⟩)) hg hat); have n4_ := jA (hb); have n5_ := jA (ho); clear BK551 BK552 BK553 HO564 HB HO558; have BK551 := n0_; have BK552 := n1_; have BK553 := n2_; have HO564 := n3_; have HB := n4_; have HO561 := n5_; clear n0_ n1_ n2_ n3_ n4_ n5_ ho hb hg hat
       refine hK.out _ _ ⟨(jE BK551.out 0).trans rfl, (jE BK552.out 0).trans rfl, (jE BK552.out 1).trans rfl, (jE BK552.out 2).trans rfl⟩ (fun hHeld => ?_)
       clear hK K
       refine norm_ (a' := ?_) ?_ ?_
       rotate_left
       · show Act.put _ (some 24) _ = _
         simp only [Act.put, List.setIfInBounds_toArray, List.set_cons_zero, List.set_cons_succ, i64_w, i32_w]
         rfl
       exact norm_ (by simp only [putAll, Act.put, List.setIfInBounds_toArray, List.set_cons_zero, List.set_cons_succ]) (hCont (v557, v560, v563) _ ⟨hHeld, (Rm HO561.out), (by (with_reducible repeat apply Xq); exact jW HO564.out (fun _ hk => ⟨hk.2, hk.1⟩)), (Bm BK551.out), (Bm BK552.out), (Bm BK553.out), Ub⟩)
     rintro ⟨v557, v560, v563⟩ w39 ⟨hS_, h0_, h1_, h2_, h3_, h4_, h5_⟩
     have n0_ : Aside0 (Kd.R k58 58 w39 w.heap.size (fun k_ => some k_ ≠ (v563 : Value).ownBlock ∧ k_ ≠ gb552) v560 y559) := ⟨h0_⟩
     have n1_ : Aside0 (Kd.R k58 58 w39 w.heap.size (fun k_ => some k_ ≠ (v560 : Value).ownBlock ∧ k_ ≠ gb552) v563 y562) := ⟨h1_⟩
     have n2_ : Aside0 (w39.heap[gb551]? = some (.cells #[.slice A0_0 l0_0.length c0_0] 52 (0, 0))) := ⟨h2_⟩
     have n3_ : Aside0 (w39.heap[gb552]? = some (.cells #[.int .i64 a1_0, .int .i64 a1_1, .int .i64 a1_2] 58 (0, 0))) := ⟨h3_⟩
     have n4_ : Aside0 (w39.heap[gb553]? = some (.cells #[.slice none 0 0] 52 (0, 0))) := ⟨h4_⟩
     have n5_ : Aside0 (Below w.heap.size w w39) := ⟨h5_⟩
     clear BK551; clear BK552 BK553 HB h0_ h1_ h2_ h3_ h4_ h5_; have HO561 := n0_; have HO564 := n1_; have BK551 := n2_; have BK552 := n3_; have BK553 := n4_; have HB := n5_; clear n0_ n1_ n2_ n3_ n4_ n5_
     have hHeld : w39.cell? ⟨gb551, 0, none⟩ = some (.slice A0_0 l0_0.length c0_0) ∧ w39.cell? ⟨gb552, 0, none⟩ = some (.int .i64 a1_0) ∧ w39.cell? ⟨gb552, 1, none⟩ = some (.int .i64 a1_1) ∧ w39.cell? ⟨gb552, 2, none⟩ = some (.int .i64 a1_2) := hS_
     obtain ⟨Ao41, co41, eo41⟩ := jq HO564.out
     (first | subst eo41 | (injection eo41 with f1_ f2_ f3_; have f4_ := f1_.symm; have f5_ := f3_.symm; clear f1_ f2_ f3_; subst f4_; subst f5_))
     refine norm_ (a' := ?_) ?_ ?_
     rotate_left
     · simp only [putAll, Act.put, List.setIfInBounds_toArray, List.set_cons_zero, List.set_cons_succ]
       rfl
     refine one_ (i := 6) (N := some 27) #[true, true, true, true, true, true, true, false, false, false] rfl rfl (one_of HT_.out (by kernel_rfl)) (by decide) (fun K hK => ?_)
     refine Kd.R_append_rows_step k58 (w0 := w) w.heap.size (by rfl) (.tmp 24) (.tmp 26) 50 58 (.agg #[(.int .i64 0), (.int .i64 0), (.int .i64 0)]) 24 rfl Try.underlying50 info58 rfl (by decide) (by omega) v560 y559 y562 _ _ _ (fun k_ => some k_ ≠ (.slice Ao41 y562.length co41 : Value).ownBlock ∧ k_ ≠ gb552) (fun _ => False) rfl rfl ?aO ?aR (fun _ _ h => h) (fun _ h => h.elim) ?aF ?aB ?aS ?aL ?_
     (case aR => repeat (first | exact (Kd.R_reads' HO564.out).2.2 | (with_reducible refine Xc ?_)))
     (case aB => exact Ub)
     (case aF => exact (fun k_ hk => ⟨Kd.fresh' (jr (Rm HO564.out)) k_ hk, Kd.freshB (g := gb552) (o := .cells #[.int .i64 a1_0, .int .i64 a1_1, .int .i64 a1_2] 58 (0, 0)) (Bm BK552.out) k_ hk⟩))
     (case aO => exact (Rm HO561.out))
     (case aS => exact (jL Ub))
     (case aL => have := LMc21.out; omega)
     intro v566 w40 ho hb hg hat
     rw [← Ny565.out] at ho
     have n0_ := jA (js (g := gb551) (o := .cells #[.slice A0_0 l0_0.length c0_0] 52 (0, 0)) (Bm BK551.out) hg (Kd.R_ne HO561.out BK551.out (by decide))); have n1_ := jA (js (g := gb552) (o := .cells #[.int .i64 a1_0, .int .i64 a1_1, .int .i64 a1_2] 58 (0, 0)) (Bm BK552.out) hg (Kd.R_away HO561.out (fun _ hk => hk.2))); have n2_ := jA (js (g := gb553) (o := .cells #[.slice none 0 0] 52 (0, 0)) (Bm BK553.out) hg (Kd.R_ne HO561.out BK553.out (by decide))); have n3_ := jA (Kd.R_after (ok := (fun k_ => k_ ≠ gb552)) (by (with_reducible repeat apply Xq); exact jW HO564.out (fun _ hk => ⟨hk.2, hk.1⟩)) hg hat); have n4_ := jA (hb); have n5_ := jA (ho); clear BK551 BK552 BK553 HO564 HB HO561; have BK551 := n0_; have BK552 := n1_; have BK553 := n2_; have HO564 := n3_; have HB := n4_; have HO567 := n5_; clear n0_ n1_ n2_ n3_ n4_ n5_ ho hb hg hat
     obtain ⟨Ao42, co42, eo42⟩ := jq HO567.out
     (first | subst eo42 | (injection eo42 with f1_ f2_ f3_; have f4_ := f1_.symm; have f5_ := f3_.symm; clear f1_ f2_ f3_; subst f4_; subst f5_))
     refine hK.out _ _ ⟨(jE BK551.out 0).trans rfl, (jE BK552.out 0).trans rfl, (jE BK552.out 1).trans rfl, (jE BK552.out 2).trans rfl⟩ (fun hHeld => ?_)
     clear hK K
     refine norm_ (a' := ?_) ?_ ?_
     rotate_left
     · show Act.put _ (some 27) _ = _
       simp only [Act.put, List.setIfInBounds_toArray, List.set_cons_zero, List.set_cons_succ, i64_w, i32_w]
       rfl
     refine Pu 7 28 #[true, true, true, true, true, true, true, true, false, false] HT_.out ?_
     refine one_ (i := 8) (N := none) #[true, true, true, true, true, true, true, true, true, false] rfl rfl (one_of HT_.out (by kernel_rfl)) (by decide) (fun K hK => ?_)
     have hs43 : w40.cell? ⟨gb553, 0, none⟩ = some (.slice none 0 0) := (jE BK553.out 0).trans rfl
     have hfs43 := jF BK553.out 0
     have hns43_0 := NB551_553.out
     have hns43_1 := NB552_553.out
     have hms43_0 := NB553_551.out
     have hms43_1 := NB553_552.out
     refine skip_ (w1 := ?_) (by rfl) rfl ?_ ?_
     rotate_left
     · go_simp
       rfl
     refine hK.out _ _ ⟨((cell_far (p := ⟨gb553, _, none⟩) NB551_553.out _).trans (hHeld.1)), ((cell_far (p := ⟨gb553, _, none⟩) NB552_553.out _).trans (hHeld.2.1)), ((cell_far (p := ⟨gb553, _, none⟩) NB552_553.out _).trans (hHeld.2.2.1)), ((cell_far (p := ⟨gb553, _, none⟩) NB552_553.out _).trans (hHeld.2.2.2))⟩ (fun hHeld => ?_)
     clear hK K
     refine Pu 9 5 #[true, true, true, true, true, true, true, true, true, true] HT_.out ?_
     refine done_ (done_of HT_.out (by kernel_rfl)) ?_
     try go_wp2
     refine bodyPost_ret (results_ct rfl _ _ gb553 52 #[.slice Ao42 y565.length co42] (0, 0) _ rfl (by (with_reducible repeat refine Xg ?_); refine jp (cs := #[.slice none 0 0]) ?_ 0 _ rfl; (with_reducible repeat refine Xg ?_); exact BK553.out) Try.underlying52 rfl (by kernel_rfl)) rfl ?_
     exact ⟨_, Re, by (with_reducible repeat apply Xq); exact jW (jg (p := ⟨gb553, 0, none⟩) (jm HO567.out BK553.out (by decide)) (fun _ hk => hk.2) (.slice Ao42 y565.length co42)) (fun _ hk => trivial), Ub⟩
   simp only [Option.some.injEq, Prod.mk.injEq] at H
   obtain ⟨rfl, rfl⟩ := H
   go_enter Try.func94, Try.ntmps94
   go_wp2_with (first | ((with_reducible refine gate_dst (N := 2) rfl ?_); (try (refine gate_guard (by rfl) ?_; dsimp only)); refine box_event ?hg (N := 2) ?hd (cs := #[.slice A0_0 l0_0.length c0_0]) (t := 52) ?hr ?_; (case hd => rfl); (case hg => rfl); (case hr => first | (go_simp; done) | (go_simp; rfl)); intro gb551 hg w44 hbox hb; have BK551 := jA (hbox); have GW551 := jA ((by rw [hg]; exact (jL Ub) : w.heap.size ≤ gb551)); have GE551 := jA ((by rw [hg]; exact (jL Ub) : w.heap.size ≤ gb551)); replace HB := jA (jB Ub hb); clear hb hbox hg) | ((with_reducible refine gate_dst (N := 3) rfl ?_); (try (refine gate_guard (by rfl) ?_; dsimp only)); refine box_event ?hg (N := 3) ?hd (cs := #[.int .i64 a1_0, .int .i64 a1_1, .int .i64 a1_2]) (t := 58) ?hr ?_; (case hd => rfl); (case hg => rfl); (case hr => first | (go_simp; done) | (go_simp; rfl)); intro gb552 hg w45 hbox hb; have BK552 := jA (hbox); have GW552 := jA ((by rw [hg]; exact (jL Ub) : w.heap.size ≤ gb552)); have GE552 := jA ((by rw [hg]; exact (jL Ub) : w.heap.size ≤ gb552)); replace HB := jA (jB Ub hb); have NB551_552 := jA ((by rw [hg]; exact jZ (blk_lt (g := gb551) (o := .cells #[.slice A0_0 l0_0.length c0_0] 52 (0, 0)) (Bm BK551.out)) : gb551 ≠ gb552)); have NB552_551 := jA ((by rw [hg]; exact ja (blk_lt (g := gb551) (o := .cells #[.slice A0_0 l0_0.length c0_0] 52 (0, 0)) (Bm BK551.out)) : gb552 ≠ gb551)); replace BK551 := jA (jN (g := gb551) (o := .cells #[.slice A0_0 l0_0.length c0_0] 52 (0, 0)) (Bm BK551.out) hb); clear hb hbox hg) | ((with_reducible refine gate_dst (N := 4) rfl ?_); (try (refine gate_guard (by rfl) ?_; dsimp only)); refine box_event ?hg (N := 4) ?hd (cs := #[.slice none 0 0]) (t := 52) ?hr ?_; (case hd => rfl); (case hg => rfl); (case hr => first | (go_simp; done) | (go_simp; rfl)); intro gb553 hg w46 hbox hb; have BK553 := jA (hbox); have GW553 := jA ((by rw [hg]; exact (jL Ub) : w.heap.size ≤ gb553)); have GE553 := jA ((by rw [hg]; exact (jL Ub) : w.heap.size ≤ gb553)); replace HB := jA (jB Ub hb); have NB551_553 := jA ((by rw [hg]; exact jZ (blk_lt (g := gb551) (o := .cells #[.slice A0_0 l0_0.length c0_0] 52 (0, 0)) (Bm BK551.out)) : gb551 ≠ gb553)); have NB553_551 := jA ((by rw [hg]; exact ja (blk_lt (g := gb551) (o := .cells #[.slice A0_0 l0_0.length c0_0] 52 (0, 0)) (Bm BK551.out)) : gb553 ≠ gb551)); replace BK551 := jA (jN (g := gb551) (o := .cells #[.slice A0_0 l0_0.length c0_0] 52 (0, 0)) (Bm BK551.out) hb); have NB552_553 := jA ((by rw [hg]; exact jZ (blk_lt (g := gb552) (o := .cells #[.int .i64 a1_0, .int .i64 a1_1, .int .i64 a1_2] 58 (0, 0)) (Bm BK552.out)) : gb552 ≠ gb553)); have NB553_552 := jA ((by rw [hg]; exact ja (blk_lt (g := gb552) (o := .cells #[.int .i64 a1_0, .int .i64 a1_1, .int .i64 a1_2] 58 (0, 0)) (Bm BK552.out)) : gb553 ≠ gb552)); replace BK552 := jA (jN (g := gb552) (o := .cells #[.int .i64 a1_0, .int .i64 a1_1, .int .i64 a1_2] 58 (0, 0)) (Bm BK552.out) hb); clear hb hbox hg; have hnb47 := NB551_552.out; have hnc47 := NB552_551.out; have hnb48 := NB551_553.out; have hnc48 := NB553_551.out; have hcz49_0 : w46.cell? ⟨gb551, 0, none⟩ = some (.slice A0_0 l0_0.length c0_0) := (jE BK551.out 0).trans rfl; have hfz49_0 := jF BK551.out 0) | (refine Gl 7 #[.agg #[.slice A0_0 l0_0.length c0_0]] Try.func226 ?_; (with_reducible refine (spec_pzGood.calls k _ _ l0_0 true _ (Cm (jY HR0_0.out HB.out)) HC0_0.out A3.out).mono ?_); rintro e w50 ⟨rfl, hb⟩; refine ⟨_, rfl, ?_⟩; replace BK551 := jA (jN (g := gb551) (o := .cells #[.slice A0_0 l0_0.length c0_0] 52 (0, 0)) (Bm BK551.out) hb); replace BK552 := jA (jN (g := gb552) (o := .cells #[.int .i64 a1_0, .int .i64 a1_1, .int .i64 a1_2] 58 (0, 0)) (Bm BK552.out) hb); replace BK553 := jA (jN (g := gb553) (o := .cells #[.slice none 0 0] 52 (0, 0)) (Bm BK553.out) hb); replace HB := jA (jB Ub hb); clear hb; have hnb51 := NB552_553.out; have hnc51 := NB553_552.out; have hcz52_0 : w50.cell? ⟨gb552, 0, none⟩ = some (.int .i64 a1_0) := (jE BK552.out 0).trans rfl; have hcz52_1 : w50.cell? ⟨gb552, 1, none⟩ = some (.int .i64 a1_1) := (jE BK552.out 1).trans rfl; have hcz52_2 : w50.cell? ⟨gb552, 2, none⟩ = some (.int .i64 a1_2) := (jE BK552.out 2).trans rfl; have hfz52_0 := jF BK552.out 0; have hfz52_1 := jF BK552.out 1; have hfz52_2 := jF BK552.out 2) | (go_at_call 231; (with_reducible refine (spec_pzClue.calls k a1_0 a1_1 a1_2 false _ A5.out).mono ?_); rintro e w53 ⟨rfl, hb⟩; replace BK551 := jA (jN (g := gb551) (o := .cells #[.slice A0_0 l0_0.length c0_0] 52 (0, 0)) (Bm BK551.out) hb); replace BK552 := jA (jN (g := gb552) (o := .cells #[.int .i64 a1_0, .int .i64 a1_1, .int .i64 a1_2] 58 (0, 0)) (Bm BK552.out) hb); replace BK553 := jA (jN (g := gb553) (o := .cells #[.slice none 0 0] 52 (0, 0)) (Bm BK553.out) hb); replace HB := jA (jB Ub hb); clear hb; have hcz54_0 : w53.cell? ⟨gb553, 0, none⟩ = some (.slice none 0 0) := (jE BK553.out 0).trans rfl; have hfz54_0 := jF BK553.out 0))
   refine bodyPost_ret (results_ct rfl _ _ gb553 52 #[.slice none 0 0] (0, 0) _ rfl (by (with_reducible repeat refine Xg ?_); refine jp (cs := #[.slice none 0 0]) ?_ 0 _ rfl; (with_reducible repeat refine Xg ?_); exact BK553.out) Try.underlying52 rfl (by kernel_rfl)) rfl ?_
   exact ⟨_, Re, Nl, Ub⟩
 simp only [Option.some.injEq, Prod.mk.injEq] at H
 obtain ⟨rfl, rfl⟩ := H
 go_enter Try.func94, Try.ntmps94
 go_wp2_with (first | ((with_reducible refine gate_dst (N := 2) rfl ?_); (try (refine gate_guard (by rfl) ?_; dsimp only)); refine box_event ?hg (N := 2) ?hd (cs := #[.slice A0_0 l0_0.length c0_0]) (t := 52) ?hr ?_; (case hd => rfl); (case hg => rfl); (case hr => first | (go_simp; done) | (go_simp; rfl)); intro gb551 hg w55 hbox hb; have BK551 := jA (hbox); have GW551 := jA ((by rw [hg]; exact (jL Ub) : w.heap.size ≤ gb551)); have GE551 := jA ((by rw [hg]; exact (jL Ub) : w.heap.size ≤ gb551)); replace HB := jA (jB Ub hb); clear hb hbox hg) | ((with_reducible refine gate_dst (N := 3) rfl ?_); (try (refine gate_guard (by rfl) ?_; dsimp only)); refine box_event ?hg (N := 3) ?hd (cs := #[.int .i64 a1_0, .int .i64 a1_1, .int .i64 a1_2]) (t := 58) ?hr ?_; (case hd => rfl); (case hg => rfl); (case hr => first | (go_simp; done) | (go_simp; rfl)); intro gb552 hg w56 hbox hb; have BK552 := jA (hbox); have GW552 := jA ((by rw [hg]; exact (jL Ub) : w.heap.size ≤ gb552)); have GE552 := jA ((by rw [hg]; exact (jL Ub) : w.heap.size ≤ gb552)); replace HB := jA (jB Ub hb); have NB551_552 := jA ((by rw [hg]; exact jZ (blk_lt (g := gb551) (o := .cells #[.slice A0_0 l0_0.length c0_0] 52 (0, 0)) (Bm BK551.out)) : gb551 ≠ gb552)); have NB552_551 := jA ((by rw [hg]; exact ja (blk_lt (g := gb551) (o := .cells #[.slice A0_0 l0_0.length c0_0] 52 (0, 0)) (Bm BK551.out)) : gb552 ≠ gb551)); replace BK551 := jA (jN (g := gb551) (o := .cells #[.slice A0_0 l0_0.length c0_0] 52 (0, 0)) (Bm BK551.out) hb); clear hb hbox hg) | ((with_reducible refine gate_dst (N := 4) rfl ?_); (try (refine gate_guard (by rfl) ?_; dsimp only)); refine box_event ?hg (N := 4) ?hd (cs := #[.slice none 0 0]) (t := 52) ?hr ?_; (case hd => rfl); (case hg => rfl); (case hr => first | (go_simp; done) | (go_simp; rfl)); intro gb553 hg w57 hbox hb; have BK553 := jA (hbox); have GW553 := jA ((by rw [hg]; exact (jL Ub) : w.heap.size ≤ gb553)); have GE553 := jA ((by rw [hg]; exact (jL Ub) : w.heap.size ≤ gb553)); replace HB := jA (jB Ub hb); have NB551_553 := jA ((by rw [hg]; exact jZ (blk_lt (g := gb551) (o := .cells #[.slice A0_0 l0_0.length c0_0] 52 (0, 0)) (Bm BK551.out)) : gb551 ≠ gb553)); have NB553_551 := jA ((by rw [hg]; exact ja (blk_lt (g := gb551) (o := .cells #[.slice A0_0 l0_0.length c0_0] 52 (0, 0)) (Bm BK551.out)) : gb553 ≠ gb551)); replace BK551 := jA (jN (g := gb551) (o := .cells #[.slice A0_0 l0_0.length c0_0] 52 (0, 0)) (Bm BK551.out) hb); have NB552_553 := jA ((by rw [hg]; exact jZ (blk_lt (g := gb552) (o := .cells #[.int .i64 a1_0, .int .i64 a1_1, .int .i64 a1_2] 58 (0, 0)) (Bm BK552.out)) : gb552 ≠ gb553)); have NB553_552 := jA ((by rw [hg]; exact ja (blk_lt (g := gb552) (o := .cells #[.int .i64 a1_0, .int .i64 a1_1, .int .i64 a1_2] 58 (0, 0)) (Bm BK552.out)) : gb553 ≠ gb552)); replace BK552 := jA (jN (g := gb552) (o := .cells #[.int .i64 a1_0, .int .i64 a1_1, .int .i64 a1_2] 58 (0, 0)) (Bm BK552.out) hb); clear hb hbox hg; have hnb58 := NB551_552.out; have hnc58 := NB552_551.out; have hnb59 := NB551_553.out; have hnc59 := NB553_551.out; have hcz60_0 : w57.cell? ⟨gb551, 0, none⟩ = some (.slice A0_0 l0_0.length c0_0) := (jE BK551.out 0).trans rfl; have hfz60_0 := jF BK551.out 0) | (refine Gl 7 #[.agg #[.slice A0_0 l0_0.length c0_0]] Try.func226 ?_; (with_reducible refine (spec_pzGood.calls k _ _ l0_0 false _ (Cm (jY HR0_0.out HB.out)) HC0_0.out A3.out).mono ?_); rintro e w61 ⟨rfl, hb⟩; refine ⟨_, rfl, ?_⟩; replace BK551 := jA (jN (g := gb551) (o := .cells #[.slice A0_0 l0_0.length c0_0] 52 (0, 0)) (Bm BK551.out) hb); replace BK552 := jA (jN (g := gb552) (o := .cells #[.int .i64 a1_0, .int .i64 a1_1, .int .i64 a1_2] 58 (0, 0)) (Bm BK552.out) hb); replace BK553 := jA (jN (g := gb553) (o := .cells #[.slice none 0 0] 52 (0, 0)) (Bm BK553.out) hb); replace HB := jA (jB Ub hb); clear hb; have hnb62 := NB553_552.out; have hnc62 := NB552_553.out; have hcz63_0 : w61.cell? ⟨gb553, 0, none⟩ = some (.slice none 0 0) := (jE BK553.out 0).trans rfl; have hfz63_0 := jF BK553.out 0))
 refine bodyPost_ret (results_ct rfl _ _ gb553 52 #[.slice none 0 0] (0, 0) _ rfl (by (with_reducible repeat refine Xg ?_); refine jp (cs := #[.slice none 0 0]) ?_ 0 _ rfl; (with_reducible repeat refine Xg ?_); exact BK553.out) Try.underlying52 rfl (by kernel_rfl)) rfl ?_
 exact ⟨_, Re, Nl, Ub⟩

/-! ### spec_DrawDropClue: function 95 -/
def spec_DrawDropClue_in.f (k : Nat) (s0_0 : List Int) (s0_1 : Int) (s0_2 : Int) : Option ((List (S58)) × Int × Int × Int) := (spec_l1Cur_puzzle.f k s0_0 s0_1 s0_2).bind fun bt569 => ((spec_l1Cur_pick.f s0_0 bt569.2.1 bt569.2.2 6).bind fun bt574 => ((spec_l1Cur_pick.f s0_0 bt574.2.1 bt574.2.2 9).bind fun bt577 => (some (bt569.1, wrap64 (bt574.1 - (wrap64 (Int.tdiv bt577.1 8))), bt577.2.1, bt577.2.2))))
def spec_DrawDropClue.f (k : Nat) (l0 : List Int) : Option (List (S58) × Int) := (spec_DrawDropClue_in.f k l0 0 0).bind fun t_ => some (t_.1, t_.2.1)
theorem spec_DrawDropClue.calls (k : Nat) (A0_ : Option Addr) (c0_ : Nat) (s0_0 : List Int) (r1 : List (S58)) (r2 : Int) (w0 : World) (hr0_ : Kd.C (Kd.int .u8) w0 A0_ s0_0.length s0_0) (hc0_ : s0_0.length ≤ c0_) (h : spec_DrawDropClue.f k s0_0 = some (r1, r2)) :
 Calls Try.prog 95 #[.slice A0_ s0_0.length c0_] w0 fun e w' => ∃ v0_ : Value, e = .returned (.tuple #[.agg #[v0_], .int .i64 r2]) ∧ Kd.R k58 58 w' w0.heap.size (fun _ => True) v0_ r1 ∧ Below w0.heap.size w0 w' := by
 unfold spec_DrawDropClue.f at h
 obtain ⟨tt_, h0_, h⟩ := Option.bind_eq_some_iff.1 h
 obtain ⟨y0_, y1_, r3, r4⟩ := tt_
 have h := (jM h).symm
 simp only [Prod.mk.injEq] at h
 obtain ⟨e0_, e1_⟩ := h
 subst e0_
 subst e1_
 obtain ⟨s0_1, es1_⟩ : ∃ s_ : Int, s_ = 0 := ⟨_, rfl⟩
 obtain ⟨s0_2, es2_⟩ : ∃ s_ : Int, s_ = 0 := ⟨_, rfl⟩
 have h : spec_DrawDropClue_in.f k s0_0 s0_1 s0_2 = some (r1, r2, r3, r4) := by subst es1_ es2_; exact h0_
 clear h0_
 obtain ⟨gb568, hg0_⟩ : ∃ g_, g_ = w0.heap.size := ⟨_, rfl⟩
 obtain ⟨g, hg_⟩ : ∃ g_, g_ = w0.heap.size + 1 := ⟨_, rfl⟩
 obtain ⟨w, hw_⟩ : ∃ w_, w_ = (w0.alloc (.cells #[.slice none 0 0] 52)).alloc (.cells #[.slice A0_ s0_0.length c0_, .int .i64 0, .int .u64 0] 102) := ⟨_, rfl⟩
 have hI : IsS102 w0 w g s0_0 s0_1 s0_2 := by subst hw_ hg_ es1_ es2_; have h_ := blk_new (w0.alloc (.cells #[.slice none 0 0] 52)) (.cells #[.slice A0_ s0_0.length c0_, .int .i64 0, .int .u64 0] 102); rw [show (w0.alloc (.cells #[.slice none 0 0] 52)).heap.size = w0.heap.size + 1 from by simp] at h_; exact ⟨A0_, c0_, h_, Nat.le_add_right _ _, hr0_⟩
 have hB : Below w0.heap.size w0 w := by subst hw_; exact jP (jP (jU _ _) _) _
 have BK568 := jA (show w.heap[gb568]? = some (.cells #[.slice none 0 0] 52 (0, 0)) from by subst hw_ hg0_; have h_ := blk_new w0 (.cells #[.slice none 0 0] 52); exact blk_alloc (h_) _)
 have GW568 := jA (show w0.heap.size ≤ gb568 from by omega)
 have GE568 := jA (show w0.heap.size ≤ gb568 from by omega)
 have NB0_568 := jA (show g ≠ gb568 from by omega)
 have NB568_0 := jA (show gb568 ≠ g from by omega)
 have HGW_ := jA (And.intro hw_ (And.intro hg_ hg0_))
 clear hg_ hw_ hg0_ es1_ es2_ hr0_ hc0_
 refine (show Calls Try.prog 95 #[.slice A0_ s0_0.length c0_] w0 (fun e w' => ∃ v0_ : Value, e = .returned (.tuple #[.agg #[v0_], .int .i64 r2]) ∧ Kd.R k58 58 w' w0.heap.size (fun _ => True) v0_ r1 ∧ IsS102 w0 w' g s0_0 r3 r4 ∧ Below w0.heap.size w0 w' ∧ KeepBut w0 w' g none) from ?_).mono (fun e w' hx_ => by obtain ⟨v0_, rfl, hx1_, hx2_, hx3_, hx4_⟩ := hx_; exact ⟨v0_, rfl, hx1_, hx3_⟩)
 have hu52 := Try.underlying52
 have HI0 := jA hI
 have HK := jA (jb hB g none)
 have HL := jA (jX w0.heap.size)
 clear hI
 have HW0 := jA (jX w0.heap.size)
 have HB := jA hB
 clear hB
 have H := h; unfold spec_DrawDropClue.f at H
 clear h
 replace H := jD H
 obtain ⟨⟨t569, t572, t573⟩, A20, H⟩ := H
 have A2 := jA A20
 clear A20
 replace H := jD H
 obtain ⟨⟨t574, t575, t576⟩, A30, H⟩ := H
 have A3 := jA A30
 clear A30
 replace H := jD H
 obtain ⟨⟨t577, t578, t579⟩, A40, H⟩ := H
 have A4 := jA A40
 clear A40
 simp only [Option.some.injEq, Prod.mk.injEq] at H
 obtain ⟨rfl, rfl, rfl, rfl⟩ := H
 go_enter Try.func95, Try.ntmps95
 go_upto_region 2 with (fail)
 (try simp only [Act.put, List.setIfInBounds_toArray, List.set_cons_zero, List.set_cons_succ])
 have hgw_ := HGW_.out
 rw [← hgw_.1]
 (try rw [← hgw_.2.1])
 (try rw [← hgw_.2.2])
 clear hgw_
 go_wp2_with (first | ((with_reducible refine gate_dst (N := 2) rfl ?_); refine box_event ?hg (N := 2) ?hd (cs := #[.slice none 0 0]) (t := 52) ?hr ?_; (case hd => rfl); (case hg => rfl); (case hr => first | (go_simp; done) | (go_simp; rfl)); intro gb568 hg w5 hbox hb; replace HB := jA (jB (by repeat (first | (with_reducible first | exact HB.out | apply Xa | refine jH ?_ (qE HI0.out)) | exact HB.out)) hb); have BK568 := jA (hbox); have GW568 := jA ((by rw [hg]; exact (je (w := w0) (g := g) (row := none) (by repeat (first | (with_reducible first | exact HK.out | apply jG | apply Xk) | exact HK.out))) : w0.heap.size ≤ gb568)); have GE568 := jA ((Nat.le_trans HW0.out (by rw [hg]; exact (je (w := w0) (g := g) (row := none) (by repeat (first | (with_reducible first | exact HK.out | apply jG | apply Xk) | exact HK.out))) : w0.heap.size ≤ gb568) : w0.heap.size ≤ gb568)); replace HK := jA (jS (by repeat (first | (with_reducible first | exact HK.out | apply jG | apply Xk) | exact HK.out)) (jb hb g none) (.inl rfl)); have NB0_568 := jA ((by rw [hg]; exact jZ (qD (show IsS102 w0 _ g s0_0 s0_1 s0_2 from by repeat (first | (with_reducible first | exact HI0.out | apply Xs | apply qG | apply qH) | exact HI0.out))) : g ≠ gb568)); have NB568_0 := jA ((by rw [hg]; exact ja (qD (show IsS102 w0 _ g s0_0 s0_1 s0_2 from by repeat (first | (with_reducible first | exact HI0.out | apply Xs | apply qG | apply qH) | exact HI0.out))) : gb568 ≠ g)); replace HI0 := jA (qA (by repeat (first | (with_reducible first | exact HI0.out | apply Xs | apply qG | apply qH) | exact HI0.out)) hb); clear hb hbox hg) | (refine Gl 9 #[.pointer (some ⟨g, 0, none⟩)] Try.func222 ?_; (with_reducible refine (spec_l1Cur_puzzle.calls k g s0_0 s0_1 s0_2 t569 t572 t573 w0 _ ?side1 ?side2 A2.out).mono ?_); (case side1 => repeat (first | (with_reducible first | exact HI0.out | apply Xs | apply qG | apply qH | refine qF ?_ NB0_568.out _) | exact HI0.out)); (case side2 => repeat (first | (with_reducible first | exact HB.out | apply Xa | refine jH ?_ (qE HI0.out) | refine jH ?_ GE568.out) | exact HB.out)); rintro e w6 ⟨v570, rfl, ho0, hi, hb, hk⟩; refine ⟨_, rfl, ?_⟩; replace BK568 := jA (jd hk (g' := gb568) (o := .cells #[.slice none 0 0] 52 (0, 0)) (Bm BK568.out) NB568_0.out (by simp)); have HO571 := jA (jf ho0 (je (w := w0) (g := g) (row := none) (by repeat (first | (with_reducible first | exact HK.out | apply jG | apply Xk | refine jT ?_ GW568.out _) | exact HK.out)))); replace HK := jA (jS (by repeat (first | (with_reducible first | exact HK.out | apply jG | apply Xk | refine jT ?_ GW568.out _) | exact HK.out)) hk (.inl rfl)); replace HB := jA (hb); replace HI0 := jA (hi); clear hb hk hi ho0) | (refine Gl 11 #[.pointer (some ⟨g, 0, none⟩), .int .i64 6] Try.func214 ?_; (with_reducible refine (spec_l1Cur_pick.calls g s0_0 t572 t573 6 t574 t575 t576 w0 _ ?side1 ?side2 A3.out).mono ?_); (case side1 => repeat (first | (with_reducible first | exact HI0.out | apply Xs | apply qG | apply qH | refine qF ?_ NB0_568.out _) | exact HI0.out)); (case side2 => repeat (first | (with_reducible first | exact HB.out | apply Xa | refine jH ?_ (qE HI0.out) | refine jH ?_ GE568.out) | exact HB.out)); rintro e w7 ⟨rfl, hi, hb, hk⟩; refine ⟨_, rfl, ?_⟩; replace BK568 := jA (jd hk (g' := gb568) (o := .cells #[.slice none 0 0] 52 (0, 0)) (Bm BK568.out) NB568_0.out (by simp)); replace HO571 := jA (jW (jh (qB (show IsS102 w0 _ g s0_0 t572 t573 from by repeat (first | (with_reducible first | exact HI0.out | apply Xs | apply qG | apply qH | refine qF ?_ NB0_568.out _) | exact HI0.out)) (Rm HO571.out) (by decide)) hk (fun _ h => h.2)) (fun _ h => h.1)); replace HK := jA (jS (by repeat (first | (with_reducible first | exact HK.out | apply jG | apply Xk | refine jT ?_ GW568.out _) | exact HK.out)) hk (.inl rfl)); replace HB := jA (hb); replace HI0 := jA (hi); clear hb hk hi) | (refine Gl 13 #[.pointer (some ⟨g, 0, none⟩), .int .i64 9] Try.func214 ?_; (with_reducible refine (spec_l1Cur_pick.calls g s0_0 t575 t576 9 t577 t578 t579 w0 _ ?side1 ?side2 A4.out).mono ?_); (case side1 => repeat (first | (with_reducible first | exact HI0.out | apply Xs | apply qG | apply qH | refine qF ?_ NB0_568.out _) | exact HI0.out)); (case side2 => repeat (first | (with_reducible first | exact HB.out | apply Xa | refine jH ?_ (qE HI0.out) | refine jH ?_ GE568.out) | exact HB.out)); rintro e w8 ⟨rfl, hi, hb, hk⟩; refine ⟨_, rfl, ?_⟩; replace BK568 := jA (jd hk (g' := gb568) (o := .cells #[.slice none 0 0] 52 (0, 0)) (Bm BK568.out) NB568_0.out (by simp)); replace HO571 := jA (jW (jh (qB (show IsS102 w0 _ g s0_0 t575 t576 from by repeat (first | (with_reducible first | exact HI0.out | apply Xs | apply qG | apply qH | refine qF ?_ NB0_568.out _) | exact HI0.out)) (Rm HO571.out) (by decide)) hk (fun _ h => h.2)) (fun _ h => h.1)); replace HK := jA (jS (by repeat (first | (with_reducible first | exact HK.out | apply jG | apply Xk | refine jT ?_ GW568.out _) | exact HK.out)) hk (.inl rfl)); replace HB := jA (hb); replace HI0 := jA (hi); clear hb hk hi; obtain ⟨Ao9, co9, eo9⟩ := jq HO571.out; subst eo9; have hnb10 := NB568_0.out; have hnc10 := NB0_568.out; have hcz11_0 : w8.cell? ⟨gb568, 0, none⟩ = some (.slice none 0 0) := (jE BK568.out 0).trans rfl; have hfz11_0 := jF BK568.out 0))
 refine bodyPost_ret (results_ct rfl _ _ gb568 52 #[.slice Ao9 t569.length co9] (0, 0) _ rfl (by (with_reducible repeat refine Xg ?_); refine jp (cs := #[.slice none 0 0]) ?_ 0 _ rfl; (with_reducible repeat refine Xg ?_); exact BK568.out) Try.underlying52 rfl (by kernel_rfl)) rfl ?_
 exact ⟨_, Re, by (with_reducible repeat apply Xq); exact jW (jg (p := ⟨gb568, 0, none⟩) (jm HO571.out BK568.out (by decide)) (fun _ hk => hk.2) (.slice Ao9 t569.length co9)) (fun _ hk => trivial), by repeat (first | (with_reducible first | exact HI0.out | apply Xs | apply qG | apply qH | refine qF ?_ NB0_568.out _) | exact HI0.out), by repeat (first | (with_reducible first | exact HB.out | apply Xa | refine jH ?_ (qE HI0.out) | refine jH ?_ GE568.out) | exact HB.out), by repeat (first | (with_reducible first | exact HK.out | apply jG | apply Xk | refine jT ?_ GW568.out _) | exact HK.out)⟩

/-! ### impl_DropClue: function 96 -/
def impl_DropClue.f (k : Nat) (l0_0 : List (S58)) (a1 : Int) : Option ((List (S58)) × Bool) := (impl_IsPuzzle.f k l0_0).bind fun t582 => (if t582 = true then ((impl_within.f a1 0 (wrap64 ((l0_0.length : Int) - 1))).bind fun t583 => (if t583 = true then ((impl_dropped.f l0_0 a1).bind fun t584 => (some (t584, true))) else (some (([] : List (S58)), false)))) else (some (([] : List (S58)), false)))
theorem impl_DropClue.calls (k : Nat) (A0_0 : Option Addr) (c0_0 : Nat) (l0_0 : List (S58)) (a1 : Int) (r1 : List (S58)) (r2 : Bool) (w : World) (hr0_0 : Kd.C k58 w A0_0 l0_0.length l0_0) (hc0_0 : l0_0.length ≤ c0_0) (h : impl_DropClue.f k l0_0 a1 = some (r1, r2)) :
 Calls Try.prog 96 #[.agg #[.slice A0_0 l0_0.length c0_0], .int .i64 a1] w fun e w' => ∃ v0_ : Value, e = .returned (.tuple #[.agg #[v0_], .bool r2]) ∧ Kd.R k58 58 w' w.heap.size (fun _ => True) v0_ r1 ∧ Below w.heap.size w w' := by
 have hu52 := Try.underlying52
 have HR0_0 := jA hr0_0
 have HC0_0 := jA hc0_0
 clear hr0_0 hc0_0
 have HB := jA (jU w.heap.size w)
 have H := h; unfold impl_DropClue.f at H
 clear h
 replace H := jD H
 obtain ⟨t582, A30, H⟩ := H
 have A3 := jA A30
 clear A30
 replace H := Iw H; rcases H with ⟨rfl, H⟩ | ⟨rfl, H⟩
 · replace H := jD H
   obtain ⟨t583, A50, H⟩ := H
   have A5 := jA A50
   clear A50
   replace H := Iw H; rcases H with ⟨rfl, H⟩ | ⟨rfl, H⟩
   · replace H := jD H
     obtain ⟨t584, A70, H⟩ := H
     have A7 := jA A70
     clear A70
     simp only [Option.some.injEq, Prod.mk.injEq] at H
     obtain ⟨rfl, rfl⟩ := H
     go_enter Try.func96, Try.ntmps96
     go_wp2_with (first | ((with_reducible refine gate_dst (N := 2) rfl ?_); (try (refine gate_guard (by rfl) ?_; dsimp only)); refine box_event ?hg (N := 2) ?hd (cs := #[.slice A0_0 l0_0.length c0_0]) (t := 52) ?hr ?_; (case hd => rfl); (case hg => rfl); (case hr => first | (go_simp; done) | (go_simp; rfl)); intro gb580 hg w8 hbox hb; have BK580 := jA (hbox); have GW580 := jA ((by rw [hg]; exact (jL Ub) : w.heap.size ≤ gb580)); have GE580 := jA ((by rw [hg]; exact (jL Ub) : w.heap.size ≤ gb580)); replace HB := jA (jB Ub hb); clear hb hbox hg) | ((with_reducible refine gate_dst (N := 4) rfl ?_); (try (refine gate_guard (by rfl) ?_; dsimp only)); refine box_event ?hg (N := 4) ?hd (cs := #[.slice none 0 0]) (t := 52) ?hr ?_; (case hd => rfl); (case hg => rfl); (case hr => first | (go_simp; done) | (go_simp; rfl)); intro gb581 hg w9 hbox hb; have BK581 := jA (hbox); have GW581 := jA ((by rw [hg]; exact (jL Ub) : w.heap.size ≤ gb581)); have GE581 := jA ((by rw [hg]; exact (jL Ub) : w.heap.size ≤ gb581)); replace HB := jA (jB Ub hb); have NB580_581 := jA ((by rw [hg]; exact jZ (blk_lt (g := gb580) (o := .cells #[.slice A0_0 l0_0.length c0_0] 52 (0, 0)) (Bm BK580.out)) : gb580 ≠ gb581)); have NB581_580 := jA ((by rw [hg]; exact ja (blk_lt (g := gb580) (o := .cells #[.slice A0_0 l0_0.length c0_0] 52 (0, 0)) (Bm BK580.out)) : gb581 ≠ gb580)); replace BK580 := jA (jN (g := gb580) (o := .cells #[.slice A0_0 l0_0.length c0_0] 52 (0, 0)) (Bm BK580.out) hb); clear hb hbox hg; have hnb10 := NB580_581.out; have hnc10 := NB581_580.out; have hcz11_0 : w9.cell? ⟨gb580, 0, none⟩ = some (.slice A0_0 l0_0.length c0_0) := (jE BK580.out 0).trans rfl; have hfz11_0 := jF BK580.out 0) | (refine Gl 7 #[.agg #[.slice A0_0 l0_0.length c0_0]] Try.func84 ?_; (with_reducible refine (impl_IsPuzzle.calls k _ _ l0_0 true _ (Cm (jY HR0_0.out HB.out)) HC0_0.out A3.out).mono ?_); rintro e w12 ⟨rfl, hb⟩; refine ⟨_, rfl, ?_⟩; replace BK580 := jA (jN (g := gb580) (o := .cells #[.slice A0_0 l0_0.length c0_0] 52 (0, 0)) (Bm BK580.out) hb); replace BK581 := jA (jN (g := gb581) (o := .cells #[.slice none 0 0] 52 (0, 0)) (Bm BK581.out) hb); replace HB := jA (jB Ub hb); clear hb; have hcz13_0 : w12.cell? ⟨gb580, 0, none⟩ = some (.slice A0_0 l0_0.length c0_0) := (jE BK580.out 0).trans rfl; have hfz13_0 := jF BK580.out 0) | (go_at_call 177; (with_reducible refine (impl_within.calls a1 0 (wrap64 ((l0_0.length : Int) - 1)) true _ A5.out).mono ?_); rintro e w' ⟨rfl, ⟨nd, rfl⟩⟩; (try (rw [drewN_self w12]; generalize hq_ : World.drewN w12 _ = w12; have n0_ : Aside0 (w12.heap[gb580]? = some (.cells #[.slice A0_0 l0_0.length c0_0] 52 (0, 0))) := ⟨by rw [← hq_]; exact (Bm BK580.out)⟩; have n1_ : Aside0 (w12.heap[gb581]? = some (.cells #[.slice none 0 0] 52 (0, 0))) := ⟨by rw [← hq_]; exact (Bm BK581.out)⟩; have n2_ : Aside0 (Below w.heap.size w w12) := ⟨by rw [← hq_]; exact Ub⟩; clear BK580 BK581 HB hq_; have BK580 := n0_; have BK581 := n1_; have HB := n2_; clear n0_ n1_ n2_; (try have hcyBK580_0 : w12.cell? ⟨gb580, 0, none⟩ = some (.slice A0_0 l0_0.length c0_0) := (jE BK580.out 0).trans rfl); (try have hcyBK581_0 : w12.cell? ⟨gb581, 0, none⟩ = some (.slice none 0 0) := (jE BK581.out 0).trans rfl)))) | (refine Gl 22 #[.slice A0_0 l0_0.length c0_0, .int .i64 a1] Try.func224 ?_; (with_reducible refine (impl_dropped.calls _ _ l0_0 a1 t584 _ (Cm (jY HR0_0.out HB.out)) HC0_0.out A7.out).mono ?_); rintro e w14 ⟨v585, rfl, ho0, hb⟩; refine ⟨_, rfl, ?_⟩; have HO586 := jA (jf ho0 (jL Ub)); replace BK580 := jA (jN (g := gb580) (o := .cells #[.slice A0_0 l0_0.length c0_0] 52 (0, 0)) (Bm BK580.out) hb); replace BK581 := jA (jN (g := gb581) (o := .cells #[.slice none 0 0] 52 (0, 0)) (Bm BK581.out) hb); replace HB := jA (jB Ub hb); clear hb ho0; obtain ⟨Ao15, co15, eo15⟩ := jq HO586.out; subst eo15; have hcz16_0 : w14.cell? ⟨gb581, 0, none⟩ = some (.slice none 0 0) := (jE BK581.out 0).trans rfl; have hfz16_0 := jF BK581.out 0))
     refine bodyPost_ret (results_ct rfl _ _ gb581 52 #[.slice Ao15 t584.length co15] (0, 0) _ rfl (by (with_reducible repeat refine Xg ?_); refine jp (cs := #[.slice none 0 0]) ?_ 0 _ rfl; (with_reducible repeat refine Xg ?_); exact BK581.out) Try.underlying52 rfl (by kernel_rfl)) rfl ?_
     exact ⟨_, Re, by (with_reducible repeat apply Xq); exact jW (jg (p := ⟨gb581, 0, none⟩) (jm HO586.out BK581.out (by decide)) (fun _ hk => hk.2) (.slice Ao15 t584.length co15)) (fun _ hk => trivial), Ub⟩
   simp only [Option.some.injEq, Prod.mk.injEq] at H
   obtain ⟨rfl, rfl⟩ := H
   go_enter Try.func96, Try.ntmps96
   go_wp2_with (first | ((with_reducible refine gate_dst (N := 2) rfl ?_); (try (refine gate_guard (by rfl) ?_; dsimp only)); refine box_event ?hg (N := 2) ?hd (cs := #[.slice A0_0 l0_0.length c0_0]) (t := 52) ?hr ?_; (case hd => rfl); (case hg => rfl); (case hr => first | (go_simp; done) | (go_simp; rfl)); intro gb580 hg w17 hbox hb; have BK580 := jA (hbox); have GW580 := jA ((by rw [hg]; exact (jL Ub) : w.heap.size ≤ gb580)); have GE580 := jA ((by rw [hg]; exact (jL Ub) : w.heap.size ≤ gb580)); replace HB := jA (jB Ub hb); clear hb hbox hg) | ((with_reducible refine gate_dst (N := 4) rfl ?_); (try (refine gate_guard (by rfl) ?_; dsimp only)); refine box_event ?hg (N := 4) ?hd (cs := #[.slice none 0 0]) (t := 52) ?hr ?_; (case hd => rfl); (case hg => rfl); (case hr => first | (go_simp; done) | (go_simp; rfl)); intro gb581 hg w18 hbox hb; have BK581 := jA (hbox); have GW581 := jA ((by rw [hg]; exact (jL Ub) : w.heap.size ≤ gb581)); have GE581 := jA ((by rw [hg]; exact (jL Ub) : w.heap.size ≤ gb581)); replace HB := jA (jB Ub hb); have NB580_581 := jA ((by rw [hg]; exact jZ (blk_lt (g := gb580) (o := .cells #[.slice A0_0 l0_0.length c0_0] 52 (0, 0)) (Bm BK580.out)) : gb580 ≠ gb581)); have NB581_580 := jA ((by rw [hg]; exact ja (blk_lt (g := gb580) (o := .cells #[.slice A0_0 l0_0.length c0_0] 52 (0, 0)) (Bm BK580.out)) : gb581 ≠ gb580)); replace BK580 := jA (jN (g := gb580) (o := .cells #[.slice A0_0 l0_0.length c0_0] 52 (0, 0)) (Bm BK580.out) hb); clear hb hbox hg; have hnb19 := NB580_581.out; have hnc19 := NB581_580.out; have hcz20_0 : w18.cell? ⟨gb580, 0, none⟩ = some (.slice A0_0 l0_0.length c0_0) := (jE BK580.out 0).trans rfl; have hfz20_0 := jF BK580.out 0) | (refine Gl 7 #[.agg #[.slice A0_0 l0_0.length c0_0]] Try.func84 ?_; (with_reducible refine (impl_IsPuzzle.calls k _ _ l0_0 true _ (Cm (jY HR0_0.out HB.out)) HC0_0.out A3.out).mono ?_); rintro e w21 ⟨rfl, hb⟩; refine ⟨_, rfl, ?_⟩; replace BK580 := jA (jN (g := gb580) (o := .cells #[.slice A0_0 l0_0.length c0_0] 52 (0, 0)) (Bm BK580.out) hb); replace BK581 := jA (jN (g := gb581) (o := .cells #[.slice none 0 0] 52 (0, 0)) (Bm BK581.out) hb); replace HB := jA (jB Ub hb); clear hb; have hcz22_0 : w21.cell? ⟨gb580, 0, none⟩ = some (.slice A0_0 l0_0.length c0_0) := (jE BK580.out 0).trans rfl; have hfz22_0 := jF BK580.out 0) | (go_at_call 177; (with_reducible refine (impl_within.calls a1 0 (wrap64 ((l0_0.length : Int) - 1)) false _ A5.out).mono ?_); rintro e w' ⟨rfl, ⟨nd, rfl⟩⟩; (try (rw [drewN_self w21]; generalize hq_ : World.drewN w21 _ = w21; have n0_ : Aside0 (w21.heap[gb580]? = some (.cells #[.slice A0_0 l0_0.length c0_0] 52 (0, 0))) := ⟨by rw [← hq_]; exact (Bm BK580.out)⟩; have n1_ : Aside0 (w21.heap[gb581]? = some (.cells #[.slice none 0 0] 52 (0, 0))) := ⟨by rw [← hq_]; exact (Bm BK581.out)⟩; have n2_ : Aside0 (Below w.heap.size w w21) := ⟨by rw [← hq_]; exact Ub⟩; clear BK580 BK581 HB hq_; have BK580 := n0_; have BK581 := n1_; have HB := n2_; clear n0_ n1_ n2_; (try have hcyBK580_0 : w21.cell? ⟨gb580, 0, none⟩ = some (.slice A0_0 l0_0.length c0_0) := (jE BK580.out 0).trans rfl); (try have hcyBK581_0 : w21.cell? ⟨gb581, 0, none⟩ = some (.slice none 0 0) := (jE BK581.out 0).trans rfl))); have hcz23_0 : w21.cell? ⟨gb581, 0, none⟩ = some (.slice none 0 0) := (jE BK581.out 0).trans rfl; have hfz23_0 := jF BK581.out 0))
   refine bodyPost_ret (results_ct rfl _ _ gb581 52 #[.slice none 0 0] (0, 0) _ rfl (by (with_reducible repeat refine Xg ?_); refine jp (cs := #[.slice none 0 0]) ?_ 0 _ rfl; (with_reducible repeat refine Xg ?_); exact BK581.out) Try.underlying52 rfl (by kernel_rfl)) rfl ?_
   exact ⟨_, Re, Nl, Ub⟩
 simp only [Option.some.injEq, Prod.mk.injEq] at H
 obtain ⟨rfl, rfl⟩ := H
 go_enter Try.func96, Try.ntmps96
 go_wp2_with (first | ((with_reducible refine gate_dst (N := 2) rfl ?_); (try (refine gate_guard (by rfl) ?_; dsimp only)); refine box_event ?hg (N := 2) ?hd (cs := #[.slice A0_0 l0_0.length c0_0]) (t := 52) ?hr ?_; (case hd => rfl); (case hg => rfl); (case hr => first | (go_simp; done) | (go_simp; rfl)); intro gb580 hg w24 hbox hb; have BK580 := jA (hbox); have GW580 := jA ((by rw [hg]; exact (jL Ub) : w.heap.size ≤ gb580)); have GE580 := jA ((by rw [hg]; exact (jL Ub) : w.heap.size ≤ gb580)); replace HB := jA (jB Ub hb); clear hb hbox hg) | ((with_reducible refine gate_dst (N := 4) rfl ?_); (try (refine gate_guard (by rfl) ?_; dsimp only)); refine box_event ?hg (N := 4) ?hd (cs := #[.slice none 0 0]) (t := 52) ?hr ?_; (case hd => rfl); (case hg => rfl); (case hr => first | (go_simp; done) | (go_simp; rfl)); intro gb581 hg w25 hbox hb; have BK581 := jA (hbox); have GW581 := jA ((by rw [hg]; exact (jL Ub) : w.heap.size ≤ gb581)); have GE581 := jA ((by rw [hg]; exact (jL Ub) : w.heap.size ≤ gb581)); replace HB := jA (jB Ub hb); have NB580_581 := jA ((by rw [hg]; exact jZ (blk_lt (g := gb580) (o := .cells #[.slice A0_0 l0_0.length c0_0] 52 (0, 0)) (Bm BK580.out)) : gb580 ≠ gb581)); have NB581_580 := jA ((by rw [hg]; exact ja (blk_lt (g := gb580) (o := .cells #[.slice A0_0 l0_0.length c0_0] 52 (0, 0)) (Bm BK580.out)) : gb581 ≠ gb580)); replace BK580 := jA (jN (g := gb580) (o := .cells #[.slice A0_0 l0_0.length c0_0] 52 (0, 0)) (Bm BK580.out) hb); clear hb hbox hg; have hnb26 := NB580_581.out; have hnc26 := NB581_580.out; have hcz27_0 : w25.cell? ⟨gb580, 0, none⟩ = some (.slice A0_0 l0_0.length c0_0) := (jE BK580.out 0).trans rfl; have hfz27_0 := jF BK580.out 0) | (refine Gl 7 #[.agg #[.slice A0_0 l0_0.length c0_0]] Try.func84 ?_; (with_reducible refine (impl_IsPuzzle.calls k _ _ l0_0 false _ (Cm (jY HR0_0.out HB.out)) HC0_0.out A3.out).mono ?_); rintro e w28 ⟨rfl, hb⟩; refine ⟨_, rfl, ?_⟩; replace BK580 := jA (jN (g := gb580) (o := .cells #[.slice A0_0 l0_0.length c0_0] 52 (0, 0)) (Bm BK580.out) hb); replace BK581 := jA (jN (g := gb581) (o := .cells #[.slice none 0 0] 52 (0, 0)) (Bm BK581.out) hb); replace HB := jA (jB Ub hb); clear hb; have hcz29_0 : w28.cell? ⟨gb581, 0, none⟩ = some (.slice none 0 0) := (jE BK581.out 0).trans rfl; have hfz29_0 := jF BK581.out 0))
 refine bodyPost_ret (results_ct rfl _ _ gb581 52 #[.slice none 0 0] (0, 0) _ rfl (by (with_reducible repeat refine Xg ?_); refine jp (cs := #[.slice none 0 0]) ?_ 0 _ rfl; (with_reducible repeat refine Xg ?_); exact BK581.out) Try.underlying52 rfl (by kernel_rfl)) rfl ?_
 exact ⟨_, Re, Nl, Ub⟩

/-! ### spec_DropClue: function 97 -/
def spec_DropClue.f (k : Nat) (l0_0 : List (S58)) (a1 : Int) : Option ((List (S58)) × Bool) := (spec_pzGood.f k l0_0).bind fun t589 => (if t589 = true then ((spec_l1In.f a1 0 (wrap64 ((l0_0.length : Int) - 1))).bind fun t590 => (if t590 = true then ((spec_pzWithout.f l0_0 a1).bind fun t591 => (some (t591, true))) else (some (([] : List (S58)), false)))) else (some (([] : List (S58)), false)))
theorem spec_DropClue.calls (k : Nat) (A0_0 : Option Addr) (c0_0 : Nat) (l0_0 : List (S58)) (a1 : Int) (r1 : List (S58)) (r2 : Bool) (w : World) (hr0_0 : Kd.C k58 w A0_0 l0_0.length l0_0) (hc0_0 : l0_0.length ≤ c0_0) (h : spec_DropClue.f k l0_0 a1 = some (r1, r2)) :
 Calls Try.prog 97 #[.agg #[.slice A0_0 l0_0.length c0_0], .int .i64 a1] w fun e w' => ∃ v0_ : Value, e = .returned (.tuple #[.agg #[v0_], .bool r2]) ∧ Kd.R k58 58 w' w.heap.size (fun _ => True) v0_ r1 ∧ Below w.heap.size w w' := by
 have hu52 := Try.underlying52
 have HR0_0 := jA hr0_0
 have HC0_0 := jA hc0_0
 clear hr0_0 hc0_0
 have HB := jA (jU w.heap.size w)
 have H := h; unfold spec_DropClue.f at H
 clear h
 replace H := jD H
 obtain ⟨t589, A30, H⟩ := H
 have A3 := jA A30
 clear A30
 replace H := Iw H; rcases H with ⟨rfl, H⟩ | ⟨rfl, H⟩
 · replace H := jD H
   obtain ⟨t590, A50, H⟩ := H
   have A5 := jA A50
   clear A50
   replace H := Iw H; rcases H with ⟨rfl, H⟩ | ⟨rfl, H⟩
   · replace H := jD H
     obtain ⟨t591, A70, H⟩ := H
     have A7 := jA A70
     clear A70
     simp only [Option.some.injEq, Prod.mk.injEq] at H
     obtain ⟨rfl, rfl⟩ := H
     go_enter Try.func97, Try.ntmps97
     go_wp2_with (first | ((with_reducible refine gate_dst (N := 2) rfl ?_); (try (refine gate_guard (by rfl) ?_; dsimp only)); refine box_event ?hg (N := 2) ?hd (cs := #[.slice A0_0 l0_0.length c0_0]) (t := 52) ?hr ?_; (case hd => rfl); (case hg => rfl); (case hr => first | (go_simp; done) | (go_simp; rfl)); intro gb587 hg w8 hbox hb; have BK587 := jA (hbox); have GW587 := jA ((by rw [hg]; exact (jL Ub) : w.heap.size ≤ gb587)); have GE587 := jA ((by rw [hg]; exact (jL Ub) : w.heap.size ≤ gb587)); replace HB := jA (jB Ub hb); clear hb hbox hg) | ((with_reducible refine gate_dst (N := 4) rfl ?_); (try (refine gate_guard (by rfl) ?_; dsimp only)); refine box_event ?hg (N := 4) ?hd (cs := #[.slice none 0 0]) (t := 52) ?hr ?_; (case hd => rfl); (case hg => rfl); (case hr => first | (go_simp; done) | (go_simp; rfl)); intro gb588 hg w9 hbox hb; have BK588 := jA (hbox); have GW588 := jA ((by rw [hg]; exact (jL Ub) : w.heap.size ≤ gb588)); have GE588 := jA ((by rw [hg]; exact (jL Ub) : w.heap.size ≤ gb588)); replace HB := jA (jB Ub hb); have NB587_588 := jA ((by rw [hg]; exact jZ (blk_lt (g := gb587) (o := .cells #[.slice A0_0 l0_0.length c0_0] 52 (0, 0)) (Bm BK587.out)) : gb587 ≠ gb588)); have NB588_587 := jA ((by rw [hg]; exact ja (blk_lt (g := gb587) (o := .cells #[.slice A0_0 l0_0.length c0_0] 52 (0, 0)) (Bm BK587.out)) : gb588 ≠ gb587)); replace BK587 := jA (jN (g := gb587) (o := .cells #[.slice A0_0 l0_0.length c0_0] 52 (0, 0)) (Bm BK587.out) hb); clear hb hbox hg; have hnb10 := NB587_588.out; have hnc10 := NB588_587.out; have hcz11_0 : w9.cell? ⟨gb587, 0, none⟩ = some (.slice A0_0 l0_0.length c0_0) := (jE BK587.out 0).trans rfl; have hfz11_0 := jF BK587.out 0) | (refine Gl 7 #[.agg #[.slice A0_0 l0_0.length c0_0]] Try.func226 ?_; (with_reducible refine (spec_pzGood.calls k _ _ l0_0 true _ (Cm (jY HR0_0.out HB.out)) HC0_0.out A3.out).mono ?_); rintro e w12 ⟨rfl, hb⟩; refine ⟨_, rfl, ?_⟩; replace BK587 := jA (jN (g := gb587) (o := .cells #[.slice A0_0 l0_0.length c0_0] 52 (0, 0)) (Bm BK587.out) hb); replace BK588 := jA (jN (g := gb588) (o := .cells #[.slice none 0 0] 52 (0, 0)) (Bm BK588.out) hb); replace HB := jA (jB Ub hb); clear hb; have hcz13_0 : w12.cell? ⟨gb587, 0, none⟩ = some (.slice A0_0 l0_0.length c0_0) := (jE BK587.out 0).trans rfl; have hfz13_0 := jF BK587.out 0) | (go_at_call 193; (with_reducible refine (spec_l1In.calls a1 0 (wrap64 ((l0_0.length : Int) - 1)) true _ A5.out).mono ?_); rintro e w' ⟨rfl, ⟨nd, rfl⟩⟩; (try (rw [drewN_self w12]; generalize hq_ : World.drewN w12 _ = w12; have n0_ : Aside0 (w12.heap[gb587]? = some (.cells #[.slice A0_0 l0_0.length c0_0] 52 (0, 0))) := ⟨by rw [← hq_]; exact (Bm BK587.out)⟩; have n1_ : Aside0 (w12.heap[gb588]? = some (.cells #[.slice none 0 0] 52 (0, 0))) := ⟨by rw [← hq_]; exact (Bm BK588.out)⟩; have n2_ : Aside0 (Below w.heap.size w w12) := ⟨by rw [← hq_]; exact Ub⟩; clear BK587 BK588 HB hq_; have BK587 := n0_; have BK588 := n1_; have HB := n2_; clear n0_ n1_ n2_; (try have hcyBK587_0 : w12.cell? ⟨gb587, 0, none⟩ = some (.slice A0_0 l0_0.length c0_0) := (jE BK587.out 0).trans rfl); (try have hcyBK588_0 : w12.cell? ⟨gb588, 0, none⟩ = some (.slice none 0 0) := (jE BK588.out 0).trans rfl)))) | (refine Gl 22 #[.slice A0_0 l0_0.length c0_0, .int .i64 a1] Try.func228 ?_; (with_reducible refine (spec_pzWithout.calls _ _ l0_0 a1 t591 _ (Cm (jY HR0_0.out HB.out)) HC0_0.out A7.out).mono ?_); rintro e w14 ⟨v592, rfl, ho0, hb⟩; refine ⟨_, rfl, ?_⟩; have HO593 := jA (jf ho0 (jL Ub)); replace BK587 := jA (jN (g := gb587) (o := .cells #[.slice A0_0 l0_0.length c0_0] 52 (0, 0)) (Bm BK587.out) hb); replace BK588 := jA (jN (g := gb588) (o := .cells #[.slice none 0 0] 52 (0, 0)) (Bm BK588.out) hb); replace HB := jA (jB Ub hb); clear hb ho0; obtain ⟨Ao15, co15, eo15⟩ := jq HO593.out; subst eo15; have hcz16_0 : w14.cell? ⟨gb588, 0, none⟩ = some (.slice none 0 0) := (jE BK588.out 0).trans rfl; have hfz16_0 := jF BK588.out 0))
     refine bodyPost_ret (results_ct rfl _ _ gb588 52 #[.slice Ao15 t591.length co15] (0, 0) _ rfl (by (with_reducible repeat refine Xg ?_); refine jp (cs := #[.slice none 0 0]) ?_ 0 _ rfl; (with_reducible repeat refine Xg ?_); exact BK588.out) Try.underlying52 rfl (by kernel_rfl)) rfl ?_
     exact ⟨_, Re, by (with_reducible repeat apply Xq); exact jW (jg (p := ⟨gb588, 0, none⟩) (jm HO593.out BK588.out (by decide)) (fun _ hk => hk.2) (.slice Ao15 t591.length co15)) (fun _ hk => trivial), Ub⟩
   simp only [Option.some.injEq, Prod.mk.injEq] at H
   obtain ⟨rfl, rfl⟩ := H
   go_enter Try.func97, Try.ntmps97
   go_wp2_with (first | ((with_reducible refine gate_dst (N := 2) rfl ?_); (try (refine gate_guard (by rfl) ?_; dsimp only)); refine box_event ?hg (N := 2) ?hd (cs := #[.slice A0_0 l0_0.length c0_0]) (t := 52) ?hr ?_; (case hd => rfl); (case hg => rfl); (case hr => first | (go_simp; done) | (go_simp; rfl)); intro gb587 hg w17 hbox hb; have BK587 := jA (hbox); have GW587 := jA ((by rw [hg]; exact (jL Ub) : w.heap.size ≤ gb587)); have GE587 := jA ((by rw [hg]; exact (jL Ub) : w.heap.size ≤ gb587)); replace HB := jA (jB Ub hb); clear hb hbox hg) | ((with_reducible refine gate_dst (N := 4) rfl ?_); (try (refine gate_guard (by rfl) ?_; dsimp only)); refine box_event ?hg (N := 4) ?hd (cs := #[.slice none 0 0]) (t := 52) ?hr ?_; (case hd => rfl); (case hg => rfl); (case hr => first | (go_simp; done) | (go_simp; rfl)); intro gb588 hg w18 hbox hb; have BK588 := jA (hbox); have GW588 := jA ((by rw [hg]; exact (jL Ub) : w.heap.size ≤ gb588)); have GE588 := jA ((by rw [hg]; exact (jL Ub) : w.heap.size ≤ gb588)); replace HB := jA (jB Ub hb); have NB587_588 := jA ((by rw [hg]; exact jZ (blk_lt (g := gb587) (o := .cells #[.slice A0_0 l0_0.length c0_0] 52 (0, 0)) (Bm BK587.out)) : gb587 ≠ gb588)); have NB588_587 := jA ((by rw [hg]; exact ja (blk_lt (g := gb587) (o := .cells #[.slice A0_0 l0_0.length c0_0] 52 (0, 0)) (Bm BK587.out)) : gb588 ≠ gb587)); replace BK587 := jA (jN (g := gb587) (o := .cells #[.slice A0_0 l0_0.length c0_0] 52 (0, 0)) (Bm BK587.out) hb); clear hb hbox hg; have hnb19 := NB587_588.out; have hnc19 := NB588_587.out; have hcz20_0 : w18.cell? ⟨gb587, 0, none⟩ = some (.slice A0_0 l0_0.length c0_0) := (jE BK587.out 0).trans rfl; have hfz20_0 := jF BK587.out 0) | (refine Gl 7 #[.agg #[.slice A0_0 l0_0.length c0_0]] Try.func226 ?_; (with_reducible refine (spec_pzGood.calls k _ _ l0_0 true _ (Cm (jY HR0_0.out HB.out)) HC0_0.out A3.out).mono ?_); rintro e w21 ⟨rfl, hb⟩; refine ⟨_, rfl, ?_⟩; replace BK587 := jA (jN (g := gb587) (o := .cells #[.slice A0_0 l0_0.length c0_0] 52 (0, 0)) (Bm BK587.out) hb); replace BK588 := jA (jN (g := gb588) (o := .cells #[.slice none 0 0] 52 (0, 0)) (Bm BK588.out) hb); replace HB := jA (jB Ub hb); clear hb; have hcz22_0 : w21.cell? ⟨gb587, 0, none⟩ = some (.slice A0_0 l0_0.length c0_0) := (jE BK587.out 0).trans rfl; have hfz22_0 := jF BK587.out 0) | (go_at_call 193; (with_reducible refine (spec_l1In.calls a1 0 (wrap64 ((l0_0.length : Int) - 1)) false _ A5.out).mono ?_); rintro e w' ⟨rfl, ⟨nd, rfl⟩⟩; (try (rw [drewN_self w21]; generalize hq_ : World.drewN w21 _ = w21; have n0_ : Aside0 (w21.heap[gb587]? = some (.cells #[.slice A0_0 l0_0.length c0_0] 52 (0, 0))) := ⟨by rw [← hq_]; exact (Bm BK587.out)⟩; have n1_ : Aside0 (w21.heap[gb588]? = some (.cells #[.slice none 0 0] 52 (0, 0))) := ⟨by rw [← hq_]; exact (Bm BK588.out)⟩; have n2_ : Aside0 (Below w.heap.size w w21) := ⟨by rw [← hq_]; exact Ub⟩; clear BK587 BK588 HB hq_; have BK587 := n0_; have BK588 := n1_; have HB := n2_; clear n0_ n1_ n2_; (try have hcyBK587_0 : w21.cell? ⟨gb587, 0, none⟩ = some (.slice A0_0 l0_0.length c0_0) := (jE BK587.out 0).trans rfl); (try have hcyBK588_0 : w21.cell? ⟨gb588, 0, none⟩ = some (.slice none 0 0) := (jE BK588.out 0).trans rfl))); have hcz23_0 : w21.cell? ⟨gb588, 0, none⟩ = some (.slice none 0 0) := (jE BK588.out 0).trans rfl; have hfz23_0 := jF BK588.out 0))
   refine bodyPost_ret (results_ct rfl _ _ gb588 52 #[.slice none 0 0] (0, 0) _ rfl (by (with_reducible repeat refine Xg ?_); refine jp (cs := #[.slice none 0 0]) ?_ 0 _ rfl; (with_reducible repeat refine Xg ?_); exact BK588.out) Try.underlying52 rfl (by kernel_rfl)) rfl ?_
   exact ⟨_, Re, Nl, Ub⟩
 simp only [Option.some.injEq, Prod.mk.injEq] at H
 obtain ⟨rfl, rfl⟩ := H
 go_enter Try.func97, Try.ntmps97
 go_wp2_with (first | ((with_reducible refine gate_dst (N := 2) rfl ?_); (try (refine gate_guard (by rfl) ?_; dsimp only)); refine box_event ?hg (N := 2) ?hd (cs := #[.slice A0_0 l0_0.length c0_0]) (t := 52) ?hr ?_; (case hd => rfl); (case hg => rfl); (case hr => first | (go_simp; done) | (go_simp; rfl)); intro gb587 hg w24 hbox hb; have BK587 := jA (hbox); have GW587 := jA ((by rw [hg]; exact (jL Ub) : w.heap.size ≤ gb587)); have GE587 := jA ((by rw [hg]; exact (jL Ub) : w.heap.size ≤ gb587)); replace HB := jA (jB Ub hb); clear hb hbox hg) | ((with_reducible refine gate_dst (N := 4) rfl ?_); (try (refine gate_guard (by rfl) ?_; dsimp only)); refine box_event ?hg (N := 4) ?hd (cs := #[.slice none 0 0]) (t := 52) ?hr ?_; (case hd => rfl); (case hg => rfl); (case hr => first | (go_simp; done) | (go_simp; rfl)); intro gb588 hg w25 hbox hb; have BK588 := jA (hbox); have GW588 := jA ((by rw [hg]; exact (jL Ub) : w.heap.size ≤ gb588)); have GE588 := jA ((by rw [hg]; exact (jL Ub) : w.heap.size ≤ gb588)); replace HB := jA (jB Ub hb); have NB587_588 := jA ((by rw [hg]; exact jZ (blk_lt (g := gb587) (o := .cells #[.slice A0_0 l0_0.length c0_0] 52 (0, 0)) (Bm BK587.out)) : gb587 ≠ gb588)); have NB588_587 := jA ((by rw [hg]; exact ja (blk_lt (g := gb587) (o := .cells #[.slice A0_0 l0_0.length c0_0] 52 (0, 0)) (Bm BK587.out)) : gb588 ≠ gb587)); replace BK587 := jA (jN (g := gb587) (o := .cells #[.slice A0_0 l0_0.length c0_0] 52 (0, 0)) (Bm BK587.out) hb); clear hb hbox hg; have hnb26 := NB587_588.out; have hnc26 := NB588_587.out; have hcz27_0 : w25.cell? ⟨gb587, 0, none⟩ = some (.slice A0_0 l0_0.length c0_0) := (jE BK587.out 0).trans rfl; have hfz27_0 := jF BK587.out 0) | (refine Gl 7 #[.agg #[.slice A0_0 l0_0.length c0_0]] Try.func226 ?_; (with_reducible refine (spec_pzGood.calls k _ _ l0_0 false _ (Cm (jY HR0_0.out HB.out)) HC0_0.out A3.out).mono ?_); rintro e w28 ⟨rfl, hb⟩; refine ⟨_, rfl, ?_⟩; replace BK587 := jA (jN (g := gb587) (o := .cells #[.slice A0_0 l0_0.length c0_0] 52 (0, 0)) (Bm BK587.out) hb); replace BK588 := jA (jN (g := gb588) (o := .cells #[.slice none 0 0] 52 (0, 0)) (Bm BK588.out) hb); replace HB := jA (jB Ub hb); clear hb; have hcz29_0 : w28.cell? ⟨gb588, 0, none⟩ = some (.slice none 0 0) := (jE BK588.out 0).trans rfl; have hfz29_0 := jF BK588.out 0))
 refine bodyPost_ret (results_ct rfl _ _ gb588 52 #[.slice none 0 0] (0, 0) _ rfl (by (with_reducible repeat refine Xg ?_); refine jp (cs := #[.slice none 0 0]) ?_ 0 _ rfl; (with_reducible repeat refine Xg ?_); exact BK588.out) Try.underlying52 rfl (by kernel_rfl)) rfl ?_
 exact ⟨_, Re, Nl, Ub⟩

end Go.Proofs.Ytgeoihhibglhgaa.PFnPiecesHidden
