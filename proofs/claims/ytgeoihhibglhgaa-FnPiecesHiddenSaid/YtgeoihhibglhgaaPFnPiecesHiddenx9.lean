-- printed by wip/xp
import Derived.Test.YtgeoihhibglhgaaPFnPiecesHiddenx0
import Derived.Test.YtgeoihhibglhgaaPFnPiecesHiddenx1
import Derived.Test.YtgeoihhibglhgaaPFnPiecesHiddenx2
import Derived.Test.YtgeoihhibglhgaaPFnPiecesHiddenx5
set_option maxHeartbeats 8000000
set_option maxRecDepth 100000
namespace Go.Proofs.Ytgeoihhibglhgaa.PFnPiecesHidden
open Go.RowKit Go.Proofs.YtgeoihhibglhgaaW.PrintWords Go.Proofs.YtgeoihhibglhgaaW.PrintLast Go.Proofs.YtgeoihhibglhgaaW.PrintMore Go.Proofs.Ytgeoihhibglhgaa.Xmv
attribute [local go_sem] max2_int min2_int max_two min_two max_three min_three max_four min_four
set_option linter.unusedVariables false
set_option linter.unusedSimpArgs false

attribute [local go_sem high] eqA58
/-! ### impl_IsClue: function 101 -/
def impl_IsClue.j0 : Nat → Int → Bool → Int → Int → Int → Option (Bool)
 | 0, _, _, _, _, _ => none
 | k + 1, x4, x15, x302000, x302001, x302002 => if x15 = true then ((impl_within.f x302001 0 24).bind fun t303 => (if t303 = true then (some (x302002 == 0)) else (some false))) else (if x4 = 2 then ((impl_within.f x302001 0 24).bind fun t304 => (if t304 = true then ((impl_within.f x302002 0 1).bind fun t305 => (some t305)) else (some false))) else (if x4 = 4 then ((impl_within.f x302001 0 24).bind fun t306 => (if t306 = true then ((impl_within.f x302002 0 16).bind fun t307 => (some t307)) else (some false))) else (if x4 = 5 then ((impl_within.f x302001 1 6).bind fun t308 => (if t308 = true then ((impl_within.f x302002 0 4).bind fun t309 => (some t309)) else (some false))) else (some false))))
def impl_IsClue.f (k : Nat) (a0_0 : Int) (a0_1 : Int) (a0_2 : Int) : Option (Bool) := if a0_0 = 0 then ((impl_within.f a0_1 0 4).bind fun t302 => (if t302 = true then (some (a0_2 == 0)) else (some false))) else (if a0_0 = 1 then (impl_IsClue.j0 k a0_0 (a0_0 == 1) a0_0 a0_1 a0_2) else (impl_IsClue.j0 k a0_0 (a0_0 == 3) a0_0 a0_1 a0_2))
theorem impl_IsClue.calls (k : Nat) (a0_0 : Int) (a0_1 : Int) (a0_2 : Int) (r : Bool) (w : World) (h : impl_IsClue.f k a0_0 a0_1 a0_2 = some r) :
 Calls Try.prog 101 #[.agg #[.int .i64 a0_0, .int .i64 a0_1, .int .i64 a0_2]] w fun e w' => e = .returned (.bool r) ∧ Below w.heap.size w w' := by
 have hu58 := Try.underlying58
 have HB := jA (jU w.heap.size w)
 have H := h; unfold impl_IsClue.f at H
 clear h
 replace H := Ic H; rcases H with ⟨c2, H⟩ | ⟨c2, H⟩
 · have c2b0 : (a0_0 == 0) = true := beq_iff_eq.mpr c2
   have c2b1 := bne_eq_false_iff_eq.mpr c2
   clear c2
   replace H := jD H
   obtain ⟨t302, A30, H⟩ := H
   have A3 := jA A30
   clear A30
   replace H := Iw H; rcases H with ⟨rfl, H⟩ | ⟨rfl, H⟩
   · obtain rfl := jM H
     go_enter Try.func101, Try.ntmps101
     go_wp2_with (first | ((with_reducible refine gate_dst (N := 1) rfl ?_); refine box_event ?hg (N := 1) ?hd (cs := #[.int .i64 a0_0, .int .i64 a0_1, .int .i64 a0_2]) (t := 58) ?hr ?_; (case hd => rfl); (case hg => rfl); (case hr => first | (go_simp; done) | (go_simp; rfl)); intro gb301 hg w5 hbox hb; have BK301 := jA (hbox); have GW301 := jA ((by rw [hg]; exact (jL Ub) : w.heap.size ≤ gb301)); have GE301 := jA ((by rw [hg]; exact (jL Ub) : w.heap.size ≤ gb301)); replace HB := jA (jB Ub hb); clear hb hbox hg; have hcz6_0 : w5.cell? ⟨gb301, 0, none⟩ = some (.int .i64 a0_0) := (jE BK301.out 0).trans rfl; have hcz6_1 : w5.cell? ⟨gb301, 1, none⟩ = some (.int .i64 a0_1) := (jE BK301.out 1).trans rfl; have hcz6_2 : w5.cell? ⟨gb301, 2, none⟩ = some (.int .i64 a0_2) := (jE BK301.out 2).trans rfl; have hfz6_0 := jF BK301.out 0; have hfz6_1 := jF BK301.out 1; have hfz6_2 := jF BK301.out 2) | (refine Gl 9 #[.int .i64 a0_1, .int .i64 0, .int .i64 4] Try.func177 ?_; (with_reducible refine (impl_within.calls a0_1 0 4 true _ A3.out).mono ?_); rintro e w' ⟨rfl, ⟨nd, rfl⟩⟩; refine ⟨_, rfl, ?_⟩))
     go_ret
     exact ⟨Re, Ub⟩
   obtain rfl := jM H
   go_enter Try.func101, Try.ntmps101
   go_wp2_with (first | ((with_reducible refine gate_dst (N := 1) rfl ?_); refine box_event ?hg (N := 1) ?hd (cs := #[.int .i64 a0_0, .int .i64 a0_1, .int .i64 a0_2]) (t := 58) ?hr ?_; (case hd => rfl); (case hg => rfl); (case hr => first | (go_simp; done) | (go_simp; rfl)); intro gb301 hg w7 hbox hb; have BK301 := jA (hbox); have GW301 := jA ((by rw [hg]; exact (jL Ub) : w.heap.size ≤ gb301)); have GE301 := jA ((by rw [hg]; exact (jL Ub) : w.heap.size ≤ gb301)); replace HB := jA (jB Ub hb); clear hb hbox hg; have hcz8_0 : w7.cell? ⟨gb301, 0, none⟩ = some (.int .i64 a0_0) := (jE BK301.out 0).trans rfl; have hcz8_1 : w7.cell? ⟨gb301, 1, none⟩ = some (.int .i64 a0_1) := (jE BK301.out 1).trans rfl; have hcz8_2 : w7.cell? ⟨gb301, 2, none⟩ = some (.int .i64 a0_2) := (jE BK301.out 2).trans rfl; have hfz8_0 := jF BK301.out 0; have hfz8_1 := jF BK301.out 1; have hfz8_2 := jF BK301.out 2) | (refine Gl 9 #[.int .i64 a0_1, .int .i64 0, .int .i64 4] Try.func177 ?_; (with_reducible refine (impl_within.calls a0_1 0 4 false _ A3.out).mono ?_); rintro e w' ⟨rfl, ⟨nd, rfl⟩⟩; refine ⟨_, rfl, ?_⟩))
   go_ret
   exact ⟨Re, Ub⟩
 have c2b0 : (a0_0 == 0) = false := beq_eq_false_iff_ne.mpr c2
 have c2b1 := bne_iff_ne.mpr c2
 have HC9 := jA H
 clear H
 go_enter Try.func101, Try.ntmps101
 go_upto_if 15 with (first | ((with_reducible refine gate_dst (N := 1) rfl ?_); refine box_event ?hg (N := 1) ?hd (cs := #[.int .i64 a0_0, .int .i64 a0_1, .int .i64 a0_2]) (t := 58) ?hr ?_; (case hd => rfl); (case hg => rfl); (case hr => first | (go_simp; done) | (go_simp; rfl)); intro gb301 hg w10 hbox hb; have BK301 := jA (hbox); have GW301 := jA ((by rw [hg]; exact (jL Ub) : w.heap.size ≤ gb301)); have GE301 := jA ((by rw [hg]; exact (jL Ub) : w.heap.size ≤ gb301)); replace HB := jA (jB Ub hb); clear hb hbox hg; have hcz11_0 : w10.cell? ⟨gb301, 0, none⟩ = some (.int .i64 a0_0) := (jE BK301.out 0).trans rfl; have hcz11_1 : w10.cell? ⟨gb301, 1, none⟩ = some (.int .i64 a0_1) := (jE BK301.out 1).trans rfl; have hcz11_2 : w10.cell? ⟨gb301, 2, none⟩ = some (.int .i64 a0_2) := (jE BK301.out 2).trans rfl; have hfz11_0 := jF BK301.out 0; have hfz11_1 := jF BK301.out 1; have hfz11_2 := jF BK301.out 2))
 (try simp only [Act.put, List.setIfInBounds_toArray, List.set_cons_zero, List.set_cons_succ])
 go_cut [15] (fun v15 wc => ∃ (kq : Nat) (x15_8 : Bool), v15 = .bool x15_8 ∧ Aside0 (impl_IsClue.j0 kq a0_0 x15_8 a0_0 a0_1 a0_2 = some r) ∧ Aside0 (kq ≤ k) ∧ Aside0 (wc.heap[gb301]? = some (.cells #[.int .i64 a0_0, .int .i64 a0_1, .int .i64 a0_2] 58 (0, 0))) ∧ Aside0 (Below w.heap.size w wc))
 case first =>
  have H := HC9.out
  clear HC9
  replace H := Ic H; rcases H with ⟨c12, H⟩ | ⟨c12, H⟩
  · have c12b0 : (a0_0 == 1) = true := beq_iff_eq.mpr c12
    have c12b1 := bne_eq_false_iff_eq.mpr c12
    clear c12
    (first | rw [c12b0] | (simp only [i64_w, i32_w]; rw [c12b0]) | skip)
    have H' := jA H
    clear H
    go_wp2
    go_meet
    case rel => exact ⟨_, ((a0_0 == 1)), Rs, H', ⟨by first | omega | exact jX _⟩, ⟨Bm BK301.out⟩, ⟨Ub⟩⟩
  have c12b0 : (a0_0 == 1) = false := beq_eq_false_iff_ne.mpr c12
  have c12b1 := bne_iff_ne.mpr c12
  (first | rw [c12b0] | (simp only [i64_w, i32_w]; rw [c12b0]) | skip)
  have H' := jA H
  clear H
  go_wp2
  go_meet
  case rel => exact ⟨_, ((a0_0 == 3)), Rs, H', ⟨by first | omega | exact jX _⟩, ⟨Bm BK301.out⟩, ⟨Ub⟩⟩
 case rest =>
  clear HC9
  try clear c2
  try clear c2b0
  try clear c2b1
  try clear c12
  try clear c12b0
  try clear c12b1
  try clear hcz11_0
  try clear hcz11_1
  try clear hcz11_2
  try clear hcz6_0
  try clear hcz6_1
  try clear hcz6_2
  try clear hcz8_0
  try clear hcz8_1
  try clear hcz8_2
  try clear hfz11_0
  try clear hfz11_1
  try clear hfz11_2
  try clear hfz6_0
  try clear hfz6_1
  try clear hfz6_2
  try clear hfz8_0
  try clear hfz8_1
  try clear hfz8_2
  obtain ⟨kq, x15_8, rfl, HA, HJ8, BK301, HB⟩ := hcut
  cases kq with
  | zero => exact absurd HA.out (by simp [impl_IsClue.j0])
  | succ kj8 =>
   have H := HA.out
   clear HA
   simp only [impl_IsClue.j0] at H
   by_cases c13 : x15_8 = true
   · subst c13
     have H1 : ((impl_within.f a0_1 0 24).bind fun t303 => (if t303 = true then (some (a0_2 == 0)) else (some false))) = some r := by rw [if_pos rfl] at H; exact H
     clear H
     have H := H1
     clear H1
     replace H := jD H
     obtain ⟨t303, A140, H⟩ := H
     have A14 := jA A140
     clear A140
     replace H := Iw H; rcases H with ⟨rfl, H⟩ | ⟨rfl, H⟩
     · obtain rfl := jM H
       have hcz16_0 : wc.cell? ⟨gb301, 0, none⟩ = some (.int .i64 a0_0) := (jE BK301.out 0).trans rfl
       have hcz16_1 : wc.cell? ⟨gb301, 1, none⟩ = some (.int .i64 a0_1) := (jE BK301.out 1).trans rfl
       have hcz16_2 : wc.cell? ⟨gb301, 2, none⟩ = some (.int .i64 a0_2) := (jE BK301.out 2).trans rfl
       have hfz16_0 := jF BK301.out 0
       have hfz16_1 := jF BK301.out 1
       have hfz16_2 := jF BK301.out 2
       go_wp2_with (first | (refine Gl 20 #[.int .i64 a0_1, .int .i64 0, .int .i64 24] Try.func177 ?_; (with_reducible refine (impl_within.calls a0_1 0 24 true _ A14.out).mono ?_); rintro e w' ⟨rfl, ⟨nd, rfl⟩⟩; refine ⟨_, rfl, ?_⟩))
       go_ret
       exact ⟨Re, Ub⟩
     obtain rfl := jM H
     have hcz17_0 : wc.cell? ⟨gb301, 0, none⟩ = some (.int .i64 a0_0) := (jE BK301.out 0).trans rfl
     have hcz17_1 : wc.cell? ⟨gb301, 1, none⟩ = some (.int .i64 a0_1) := (jE BK301.out 1).trans rfl
     have hcz17_2 : wc.cell? ⟨gb301, 2, none⟩ = some (.int .i64 a0_2) := (jE BK301.out 2).trans rfl
     have hfz17_0 := jF BK301.out 0
     have hfz17_1 := jF BK301.out 1
     have hfz17_2 := jF BK301.out 2
     go_wp2_with (first | (refine Gl 20 #[.int .i64 a0_1, .int .i64 0, .int .i64 24] Try.func177 ?_; (with_reducible refine (impl_within.calls a0_1 0 24 false _ A14.out).mono ?_); rintro e w' ⟨rfl, ⟨nd, rfl⟩⟩; refine ⟨_, rfl, ?_⟩))
     go_ret
     exact ⟨Re, Ub⟩
   replace c13 := Bool.eq_false_iff.mpr c13
   subst c13
   have H1 : (if a0_0 = 2 then ((impl_within.f a0_1 0 24).bind fun t304 => (if t304 = true then ((impl_within.f a0_2 0 1).bind fun t305 => (some t305)) else (some false))) else (if a0_0 = 4 then ((impl_within.f a0_1 0 24).bind fun t306 => (if t306 = true then ((impl_within.f a0_2 0 16).bind fun t307 => (some t307)) else (some false))) else (if a0_0 = 5 then ((impl_within.f a0_1 1 6).bind fun t308 => (if t308 = true then ((impl_within.f a0_2 0 4).bind fun t309 => (some t309)) else (some false))) else (some false)))) = some r := by rw [if_neg (show ¬ (false = true) by decide)] at H; exact H
   clear H
   have H := H1
   clear H1
   replace H := Ic H; rcases H with ⟨c18, H⟩ | ⟨c18, H⟩
   · have c18b0 : (a0_0 == 2) = true := beq_iff_eq.mpr c18
     have c18b1 := bne_eq_false_iff_eq.mpr c18
     clear c18
     replace H := jD H
     obtain ⟨t304, A190, H⟩ := H
     have A19 := jA A190
     clear A190
     replace H := Iw H; rcases H with ⟨rfl, H⟩ | ⟨rfl, H⟩
     · replace H := jD H
       obtain ⟨t305, A210, H⟩ := H
       have A21 := jA A210
       clear A210
       obtain rfl := jM H
       have hcz22_0 : wc.cell? ⟨gb301, 0, none⟩ = some (.int .i64 a0_0) := (jE BK301.out 0).trans rfl
       have hcz22_1 : wc.cell? ⟨gb301, 1, none⟩ = some (.int .i64 a0_1) := (jE BK301.out 1).trans rfl
       have hcz22_2 : wc.cell? ⟨gb301, 2, none⟩ = some (.int .i64 a0_2) := (jE BK301.out 2).trans rfl
       have hfz22_0 := jF BK301.out 0
       have hfz22_1 := jF BK301.out 1
       have hfz22_2 := jF BK301.out 2
       go_wp2_with (first | (refine Gl 30 #[.int .i64 a0_1, .int .i64 0, .int .i64 24] Try.func177 ?_; (with_reducible refine (impl_within.calls a0_1 0 24 true _ A19.out).mono ?_); rintro e w' ⟨rfl, ⟨nd, rfl⟩⟩; refine ⟨_, rfl, ?_⟩) | (go_at_call 177; (with_reducible refine (impl_within.calls a0_2 0 1 t305 _ A21.out).mono ?_); rintro e w' ⟨rfl, ⟨nd, rfl⟩⟩))
       go_ret
       exact ⟨Re, Ub⟩
     obtain rfl := jM H
     have hcz23_0 : wc.cell? ⟨gb301, 0, none⟩ = some (.int .i64 a0_0) := (jE BK301.out 0).trans rfl
     have hcz23_1 : wc.cell? ⟨gb301, 1, none⟩ = some (.int .i64 a0_1) := (jE BK301.out 1).trans rfl
     have hcz23_2 : wc.cell? ⟨gb301, 2, none⟩ = some (.int .i64 a0_2) := (jE BK301.out 2).trans rfl
     have hfz23_0 := jF BK301.out 0
     have hfz23_1 := jF BK301.out 1
     have hfz23_2 := jF BK301.out 2
     go_wp2_with (first | (refine Gl 30 #[.int .i64 a0_1, .int .i64 0, .int .i64 24] Try.func177 ?_; (with_reducible refine (impl_within.calls a0_1 0 24 false _ A19.out).mono ?_); rintro e w' ⟨rfl, ⟨nd, rfl⟩⟩; refine ⟨_, rfl, ?_⟩))
     go_ret
     exact ⟨Re, Ub⟩
   have c18b0 : (a0_0 == 2) = false := beq_eq_false_iff_ne.mpr c18
   have c18b1 := bne_iff_ne.mpr c18
   replace H := Ic H; rcases H with ⟨c24, H⟩ | ⟨c24, H⟩
   · have c24b0 : (a0_0 == 4) = true := beq_iff_eq.mpr c24
     have c24b1 := bne_eq_false_iff_eq.mpr c24
     clear c24
     replace H := jD H
     obtain ⟨t306, A250, H⟩ := H
     have A25 := jA A250
     clear A250
     replace H := Iw H; rcases H with ⟨rfl, H⟩ | ⟨rfl, H⟩
     · replace H := jD H
       obtain ⟨t307, A270, H⟩ := H
       have A27 := jA A270
       clear A270
       obtain rfl := jM H
       have hcz28_0 : wc.cell? ⟨gb301, 0, none⟩ = some (.int .i64 a0_0) := (jE BK301.out 0).trans rfl
       have hcz28_1 : wc.cell? ⟨gb301, 1, none⟩ = some (.int .i64 a0_1) := (jE BK301.out 1).trans rfl
       have hcz28_2 : wc.cell? ⟨gb301, 2, none⟩ = some (.int .i64 a0_2) := (jE BK301.out 2).trans rfl
       have hfz28_0 := jF BK301.out 0
       have hfz28_1 := jF BK301.out 1
       have hfz28_2 := jF BK301.out 2
       go_wp2_with (first | (refine Gl 40 #[.int .i64 a0_1, .int .i64 0, .int .i64 24] Try.func177 ?_; (with_reducible refine (impl_within.calls a0_1 0 24 true _ A25.out).mono ?_); rintro e w' ⟨rfl, ⟨nd, rfl⟩⟩; refine ⟨_, rfl, ?_⟩) | (go_at_call 177; (with_reducible refine (impl_within.calls a0_2 0 16 t307 _ A27.out).mono ?_); rintro e w' ⟨rfl, ⟨nd, rfl⟩⟩))
       go_ret
       exact ⟨Re, Ub⟩
     obtain rfl := jM H
     have hcz29_0 : wc.cell? ⟨gb301, 0, none⟩ = some (.int .i64 a0_0) := (jE BK301.out 0).trans rfl
     have hcz29_1 : wc.cell? ⟨gb301, 1, none⟩ = some (.int .i64 a0_1) := (jE BK301.out 1).trans rfl
     have hcz29_2 : wc.cell? ⟨gb301, 2, none⟩ = some (.int .i64 a0_2) := (jE BK301.out 2).trans rfl
     have hfz29_0 := jF BK301.out 0
     have hfz29_1 := jF BK301.out 1
     have hfz29_2 := jF BK301.out 2
     go_wp2_with (first | (refine Gl 40 #[.int .i64 a0_1, .int .i64 0, .int .i64 24] Try.func177 ?_; (with_reducible refine (impl_within.calls a0_1 0 24 false _ A25.out).mono ?_); rintro e w' ⟨rfl, ⟨nd, rfl⟩⟩; refine ⟨_, rfl, ?_⟩))
     go_ret
     exact ⟨Re, Ub⟩
   have c24b0 : (a0_0 == 4) = false := beq_eq_false_iff_ne.mpr c24
   have c24b1 := bne_iff_ne.mpr c24
   replace H := Ic H; rcases H with ⟨c30, H⟩ | ⟨c30, H⟩
   · have c30b0 : (a0_0 == 5) = true := beq_iff_eq.mpr c30
     have c30b1 := bne_eq_false_iff_eq.mpr c30
     clear c30
     replace H := jD H
     obtain ⟨t308, A310, H⟩ := H
     have A31 := jA A310
     clear A310
     replace H := Iw H; rcases H with ⟨rfl, H⟩ | ⟨rfl, H⟩
     · replace H := jD H
       obtain ⟨t309, A330, H⟩ := H
       have A33 := jA A330
       clear A330
       obtain rfl := jM H
       have hcz34_0 : wc.cell? ⟨gb301, 0, none⟩ = some (.int .i64 a0_0) := (jE BK301.out 0).trans rfl
       have hcz34_1 : wc.cell? ⟨gb301, 1, none⟩ = some (.int .i64 a0_1) := (jE BK301.out 1).trans rfl
       have hcz34_2 : wc.cell? ⟨gb301, 2, none⟩ = some (.int .i64 a0_2) := (jE BK301.out 2).trans rfl
       have hfz34_0 := jF BK301.out 0
       have hfz34_1 := jF BK301.out 1
       have hfz34_2 := jF BK301.out 2
       go_wp2_with (first | (refine Gl 50 #[.int .i64 a0_1, .int .i64 1, .int .i64 6] Try.func177 ?_; (with_reducible refine (impl_within.calls a0_1 1 6 true _ A31.out).mono ?_); rintro e w' ⟨rfl, ⟨nd, rfl⟩⟩; refine ⟨_, rfl, ?_⟩) | (go_at_call 177; (with_reducible refine (impl_within.calls a0_2 0 4 t309 _ A33.out).mono ?_); rintro e w' ⟨rfl, ⟨nd, rfl⟩⟩))
       go_ret
       exact ⟨Re, Ub⟩
     obtain rfl := jM H
     have hcz35_0 : wc.cell? ⟨gb301, 0, none⟩ = some (.int .i64 a0_0) := (jE BK301.out 0).trans rfl
     have hcz35_1 : wc.cell? ⟨gb301, 1, none⟩ = some (.int .i64 a0_1) := (jE BK301.out 1).trans rfl
     have hcz35_2 : wc.cell? ⟨gb301, 2, none⟩ = some (.int .i64 a0_2) := (jE BK301.out 2).trans rfl
     have hfz35_0 := jF BK301.out 0
     have hfz35_1 := jF BK301.out 1
     have hfz35_2 := jF BK301.out 2
     go_wp2_with (first | (refine Gl 50 #[.int .i64 a0_1, .int .i64 1, .int .i64 6] Try.func177 ?_; (with_reducible refine (impl_within.calls a0_1 1 6 false _ A31.out).mono ?_); rintro e w' ⟨rfl, ⟨nd, rfl⟩⟩; refine ⟨_, rfl, ?_⟩))
     go_ret
     exact ⟨Re, Ub⟩
   have c30b0 : (a0_0 == 5) = false := beq_eq_false_iff_ne.mpr c30
   have c30b1 := bne_iff_ne.mpr c30
   obtain rfl := jM H
   go_wp2
   go_ret
   exact ⟨Re, Ub⟩

/-! ### impl_DoesFit: function 83 -/
def impl_DoesFit.f (k : Nat) (a0_0 : Int) (a0_1 : Int) (a0_2 : Int) (l1 : List Int) : Option (Bool × Bool) := (impl_IsClue.f k a0_0 a0_1 a0_2).bind fun t311 => (if t311 = true then ((impl_IsHidden.f k l1).bind fun t312 => (if t312 = true then ((impl_clueOf.f k a0_0 a0_1 l1).bind fun bt313 => (some ((bt313.1 == a0_0 && (bt313.2.1 == a0_1 && (bt313.2.2 == a0_2))), true))) else (some (false, false)))) else (some (false, false)))
def impl_DoesFit.T3 : Bool × List (List Nat × List Nat) := (true, [([], []), ([0], [0]), ([], []), ([2], [2]), ([], []), ([1, 3, 4], [1, 3, 4]), ([], []), ([5, 6], [5, 6]), ([7, 5, 0, 1, 2, 3, 4, 5, 6, 7], [7]), ([8, 0, 1, 2, 3, 4, 5, 6, 7, 8], [])])
def impl_DoesFit.B3 : List Nat := [0, 1, 0, 4, 0, 31, 0, 127, 255, 511]
theorem impl_DoesFit.tab3 : rtab .any (opsOf Try.f83 3) = impl_DoesFit.T3 := by kernel_rfl
theorem impl_DoesFit.bits3 : waitsOk impl_DoesFit.T3.2 impl_DoesFit.B3 = true := by kernel_rfl
theorem impl_DoesFit.calls (k : Nat) (a0_0 : Int) (a0_1 : Int) (a0_2 : Int) (A1 : Option Addr) (c1 : Nat) (l1 : List Int) (r1 : Bool) (r2 : Bool) (w : World) (hr1 : Kd.C (Kd.int .i64) w A1 l1.length l1) (hc1 : l1.length ≤ c1) (h : impl_DoesFit.f k a0_0 a0_1 a0_2 l1 = some (r1, r2)) :
 Calls Try.prog 83 #[.agg #[.int .i64 a0_0, .int .i64 a0_1, .int .i64 a0_2], .slice A1 l1.length c1] w fun e w' => e = .returned (.tuple #[.bool r1, .bool r2]) ∧ Below w.heap.size w w' := by
 have hu58 := Try.underlying58
 have HR1 := jA hr1
 have HC1 := jA hc1
 clear hr1 hc1
 have HB := jA (jU w.heap.size w)
 have H := h; unfold impl_DoesFit.f at H
 clear h
 replace H := jD H
 obtain ⟨t311, A30, H⟩ := H
 have A3 := jA A30
 clear A30
 replace H := Iw H; rcases H with ⟨rfl, H⟩ | ⟨rfl, H⟩
 · replace H := jD H
   obtain ⟨t312, A50, H⟩ := H
   have A5 := jA A50
   clear A50
   replace H := Iw H; rcases H with ⟨rfl, H⟩ | ⟨rfl, H⟩
   · replace H := jD H
     obtain ⟨⟨t313, t314, t315⟩, A70, H⟩ := H
     have A7 := jA A70
     clear A70
     simp only [Option.some.injEq, Prod.mk.injEq] at H
     obtain ⟨rfl, rfl⟩ := H
     go_enter Try.func83, Try.ntmps83
     try go_wp2_with (first | ((with_reducible refine gate_dst (N := 2) rfl ?_); refine box_event ?hg (N := 2) ?hd (cs := #[.int .i64 a0_0, .int .i64 a0_1, .int .i64 a0_2]) (t := 58) ?hr ?_; (case hd => rfl); (case hg => rfl); (case hr => first | (go_simp; done) | (go_simp; rfl)); intro gb310 hg w8 hbox hb; have BK310 := jA (hbox); have GW310 := jA ((by rw [hg]; exact (jL Ub) : w.heap.size ≤ gb310)); have GE310 := jA ((by rw [hg]; exact (jL Ub) : w.heap.size ≤ gb310)); replace HB := jA (jB Ub hb); clear hb hbox hg; have hcz9_0 : w8.cell? ⟨gb310, 0, none⟩ = some (.int .i64 a0_0) := (jE BK310.out 0).trans rfl; have hcz9_1 : w8.cell? ⟨gb310, 1, none⟩ = some (.int .i64 a0_1) := (jE BK310.out 1).trans rfl; have hcz9_2 : w8.cell? ⟨gb310, 2, none⟩ = some (.int .i64 a0_2) := (jE BK310.out 2).trans rfl; have hfz9_0 := jF BK310.out 0; have hfz9_1 := jF BK310.out 1; have hfz9_2 := jF BK310.out 2) | (refine Gl 7 #[.agg #[.int .i64 a0_0, .int .i64 a0_1, .int .i64 a0_2]] Try.func101 ?_; (with_reducible refine (impl_IsClue.calls k a0_0 a0_1 a0_2 true _ A3.out).mono ?_); rintro e w10 ⟨rfl, hb⟩; refine ⟨_, rfl, ?_⟩; replace BK310 := jA (jN (g := gb310) (o := .cells #[.int .i64 a0_0, .int .i64 a0_1, .int .i64 a0_2] 58 (0, 0)) (Bm BK310.out) hb); replace HB := jA (jB Ub hb); clear hb) | (go_at_call 81; (with_reducible refine (impl_IsHidden.calls k _ _ l1 true _ (Cm (jY HR1.out HB.out)) HC1.out A5.out).mono ?_); rintro e w11 ⟨rfl, hb⟩; replace BK310 := jA (jN (g := gb310) (o := .cells #[.int .i64 a0_0, .int .i64 a0_1, .int .i64 a0_2] 58 (0, 0)) (Bm BK310.out) hb); replace HB := jA (jB Ub hb); clear hb))
     replace BK310 := jA (jR BK310.out); replace HB := jA (jQ HB.out)
     refine start_ (n := 10) (S := fun w' => w'.cell? ⟨gb310, 0, none⟩ = some (.int .i64 a0_0) ∧ w'.cell? ⟨gb310, 1, none⟩ = some (.int .i64 a0_1) ∧ w'.cell? ⟨gb310, 2, none⟩ = some (.int .i64 a0_2)) (ds := []) #[false, false, false, false, false, false, false, false, false, false] (by kernel_rfl) rfl rfl ⟨(jE BK310.out 0).trans rfl, (jE BK310.out 1).trans rfl, (jE BK310.out 2).trans rfl⟩ (fun hHeld => ?_); refine with_tabW impl_DoesFit.tab3 impl_DoesFit.bits3 (fun HT_ HW_ => ?_)
     generalize w11.drew = w12 at BK310 HB hHeld ⊢
     refine Pu 0 14 #[true, false, false, false, false, false, false, false, false, false] HT_.out ?_
     refine Pu 2 16 #[true, false, true, false, false, false, false, false, false, false] HT_.out ?_
     refine Pu 4 18 #[true, false, true, false, true, false, false, false, false, false] HT_.out ?_
     refine take_ (i := 1) (N := some 15) (v := ?_) (a' := ?_) #[true, true, true, false, true, false, false, false, false, false] rfl rfl (take_ofW HT_.out HW_.out (by kernel_rfl)) (fun _ _ _ h => h) (Or.inl ⟨by rfl, ?_⟩) hHeld ?_ ?_
     rotate_left
     · rintro w' ⟨s0, s1, s2⟩
       go_simp
       with_reducible rfl
     rotate_left
     · simp only [Act.put, List.setIfInBounds_toArray, List.set_cons_zero, List.set_cons_succ, i64_w, i32_w]
       rfl
     refine take_ (i := 3) (N := some 17) (v := ?_) (a' := ?_) #[true, true, true, true, true, false, false, false, false, false] rfl rfl (take_ofW HT_.out HW_.out (by kernel_rfl)) (fun _ _ _ h => h) (Or.inl ⟨by rfl, ?_⟩) hHeld ?_ ?_
     rotate_left
     · rintro w' ⟨s0, s1, s2⟩
       go_simp
       with_reducible rfl
     rotate_left
     · simp only [Act.put, List.setIfInBounds_toArray, List.set_cons_zero, List.set_cons_succ, i64_w, i32_w]
       rfl
     refine take_ (i := 6) (N := some 20) (v := ?_) (a' := ?_) #[true, true, true, true, true, false, true, false, false, false] rfl rfl (take_ofW HT_.out HW_.out (by kernel_rfl)) (fun _ _ _ h => h) (Or.inl ⟨by rfl, ?_⟩) hHeld ?_ ?_
     rotate_left
     · rintro w' ⟨s0, s1, s2⟩
       go_simp
       with_reducible rfl
     rotate_left
     · simp only [Act.put, List.setIfInBounds_toArray, List.set_cons_zero, List.set_cons_succ, i64_w, i32_w]
       rfl
     refine one_ (i := 5) (N := some 19) #[true, true, true, true, true, true, true, false, false, false] rfl rfl (one_of HT_.out (by kernel_rfl)) (by decide) (fun K hK => ?_)
     refine goes_ Try.func216 (by kernel_rfl) rfl #[.int .i64 a0_0, .int .i64 a0_1, .slice A1 l1.length c1] (by rfl) rfl rfl Ga ?_
     with_reducible refine (impl_clueOf.calls k a0_0 a0_1 _ _ l1 t313 t314 t315 _ ?side1 ?side2 A7.out).mono ?_
     (case side1 => repeat (first | exact (jY HR1.out HB.out) | (with_reducible refine Xc ?_)))
     (case side2 => exact HC1.out)
     rintro e w13 ⟨rfl, hb⟩
     refine ⟨_, rfl, ?_⟩
     replace BK310 := jA (jN (g := gb310) (o := .cells #[.int .i64 a0_0, .int .i64 a0_1, .int .i64 a0_2] 58 (0, 0)) (Bm BK310.out) hb); replace HB := jA (jB Ub hb); (try clear hb); (try clear hb2); (try clear hk); (try clear hi)
     refine hK.out _ _ ⟨(jE BK310.out 0).trans rfl, (jE BK310.out 1).trans rfl, (jE BK310.out 2).trans rfl⟩ (fun hHeld => ?_)
     clear hK K
     refine norm_ (a' := ?_) ?_ ?_
     rotate_left
     · show Act.put _ (some 19) _ = _
       simp only [Act.put, List.setIfInBounds_toArray, List.set_cons_zero, List.set_cons_succ, i64_w, i32_w]
       rfl
     refine Pu 7 21 #[true, true, true, true, true, true, true, true, false, false] HT_.out ?_
     refine Pu 8 4 #[true, true, true, true, true, true, true, true, true, false] HT_.out ?_
     refine Pu 9 5 #[true, true, true, true, true, true, true, true, true, true] HT_.out ?_
     refine done_ (done_of HT_.out (by kernel_rfl)) ?_
     try go_wp2
     go_ret2
     exact ⟨Re, Ub⟩
   simp only [Option.some.injEq, Prod.mk.injEq] at H
   obtain ⟨rfl, rfl⟩ := H
   go_enter Try.func83, Try.ntmps83
   go_wp2_with (first | ((with_reducible refine gate_dst (N := 2) rfl ?_); refine box_event ?hg (N := 2) ?hd (cs := #[.int .i64 a0_0, .int .i64 a0_1, .int .i64 a0_2]) (t := 58) ?hr ?_; (case hd => rfl); (case hg => rfl); (case hr => first | (go_simp; done) | (go_simp; rfl)); intro gb310 hg w14 hbox hb; have BK310 := jA (hbox); have GW310 := jA ((by rw [hg]; exact (jL Ub) : w.heap.size ≤ gb310)); have GE310 := jA ((by rw [hg]; exact (jL Ub) : w.heap.size ≤ gb310)); replace HB := jA (jB Ub hb); clear hb hbox hg; have hcz15_0 : w14.cell? ⟨gb310, 0, none⟩ = some (.int .i64 a0_0) := (jE BK310.out 0).trans rfl; have hcz15_1 : w14.cell? ⟨gb310, 1, none⟩ = some (.int .i64 a0_1) := (jE BK310.out 1).trans rfl; have hcz15_2 : w14.cell? ⟨gb310, 2, none⟩ = some (.int .i64 a0_2) := (jE BK310.out 2).trans rfl; have hfz15_0 := jF BK310.out 0; have hfz15_1 := jF BK310.out 1; have hfz15_2 := jF BK310.out 2) | (refine Gl 7 #[.agg #[.int .i64 a0_0, .int .i64 a0_1, .int .i64 a0_2]] Try.func101 ?_; (with_reducible refine (impl_IsClue.calls k a0_0 a0_1 a0_2 true _ A3.out).mono ?_); rintro e w16 ⟨rfl, hb⟩; refine ⟨_, rfl, ?_⟩; replace BK310 := jA (jN (g := gb310) (o := .cells #[.int .i64 a0_0, .int .i64 a0_1, .int .i64 a0_2] 58 (0, 0)) (Bm BK310.out) hb); replace HB := jA (jB Ub hb); clear hb) | (go_at_call 81; (with_reducible refine (impl_IsHidden.calls k _ _ l1 false _ (Cm (jY HR1.out HB.out)) HC1.out A5.out).mono ?_); rintro e w17 ⟨rfl, hb⟩; replace BK310 := jA (jN (g := gb310) (o := .cells #[.int .i64 a0_0, .int .i64 a0_1, .int .i64 a0_2] 58 (0, 0)) (Bm BK310.out) hb); replace HB := jA (jB Ub hb); clear hb))
   go_ret2
   exact ⟨Re, Ub⟩
 simp only [Option.some.injEq, Prod.mk.injEq] at H
 obtain ⟨rfl, rfl⟩ := H
 go_enter Try.func83, Try.ntmps83
 go_wp2_with (first | ((with_reducible refine gate_dst (N := 2) rfl ?_); refine box_event ?hg (N := 2) ?hd (cs := #[.int .i64 a0_0, .int .i64 a0_1, .int .i64 a0_2]) (t := 58) ?hr ?_; (case hd => rfl); (case hg => rfl); (case hr => first | (go_simp; done) | (go_simp; rfl)); intro gb310 hg w18 hbox hb; have BK310 := jA (hbox); have GW310 := jA ((by rw [hg]; exact (jL Ub) : w.heap.size ≤ gb310)); have GE310 := jA ((by rw [hg]; exact (jL Ub) : w.heap.size ≤ gb310)); replace HB := jA (jB Ub hb); clear hb hbox hg; have hcz19_0 : w18.cell? ⟨gb310, 0, none⟩ = some (.int .i64 a0_0) := (jE BK310.out 0).trans rfl; have hcz19_1 : w18.cell? ⟨gb310, 1, none⟩ = some (.int .i64 a0_1) := (jE BK310.out 1).trans rfl; have hcz19_2 : w18.cell? ⟨gb310, 2, none⟩ = some (.int .i64 a0_2) := (jE BK310.out 2).trans rfl; have hfz19_0 := jF BK310.out 0; have hfz19_1 := jF BK310.out 1; have hfz19_2 := jF BK310.out 2) | (refine Gl 7 #[.agg #[.int .i64 a0_0, .int .i64 a0_1, .int .i64 a0_2]] Try.func101 ?_; (with_reducible refine (impl_IsClue.calls k a0_0 a0_1 a0_2 false _ A3.out).mono ?_); rintro e w20 ⟨rfl, hb⟩; refine ⟨_, rfl, ?_⟩; replace BK310 := jA (jN (g := gb310) (o := .cells #[.int .i64 a0_0, .int .i64 a0_1, .int .i64 a0_2] 58 (0, 0)) (Bm BK310.out) hb); replace HB := jA (jB Ub hb); clear hb))
 go_ret2
 exact ⟨Re, Ub⟩

/-! ### word idxO -/
/-- The first index from i on at which p holds, or -1. -/
def idxO {α : Type} (p : α → Option Bool) : List α → Int → Option Int
  | [], _ => some (-1)
  | x :: s, i => (p x).bind fun t => if t = true then some i else idxO p s (i + 1)
theorem idxO_drop {α : Type} (p : α → Option Bool) (d : α) (l : List α) (i : Int) (h0 : 0 ≤ i) (h1 : i < l.length) : idxO p (l.drop i.toNat) i = (p (l.getD i.toNat d)).bind fun t => if t = true then some i else idxO p (l.drop (i + 1).toNat) (i + 1) := by
  have h : i.toNat < l.length := by omega
  rw [List.drop_eq_getElem_cons h, idxO, List.getD_eq_getElem?_getD, List.getElem?_eq_getElem h, Option.getD_some, show (i + 1).toNat = i.toNat + 1 by omega]



/-! ### impl_Clue_287: function 287 -/
-- GIVEN slices.IndexFunc[[]loop.example/g01305/impl.Clue,loop.example/g01305/impl.Clue] raw=1
-- USES idxO
/-- What a function value is asked for: at each element, in each later world, it returns what p tells. -/
def PredC (g : Nat) (lb : Array Value) (p : S58 → Option Bool) (w : World) : Prop :=
  ∀ (W : World) (x : S58) (r : Bool), Below w.heap.size w W → p x = some r → Calls Try.prog g (#[.agg #[.int .i64 x.f0, .int .i64 x.f1, .int .i64 x.f2]] ++ lb) W fun e w' => e = .returned (.bool r) ∧ Below w.heap.size w w'

set_option maxHeartbeats 2000000 in
theorem indexFunc_Clue (p : S58 → Option Bool) (r : Int) (g : Nat) (lb : Array Value) (eg : ∀ args w, (callFunc g args).run Try.prog w = .ok (.enter g args) w) (A0 : Option Addr) (c0 : Nat) (l0 : List S58) (w : World) (hr0 : Kd.C k58 w A0 l0.length l0) (hc0 : l0.length ≤ c0)
    (hp : PredC g lb p w) (h : idxO p l0 0 = some r) :
    Calls Try.prog 287 #[.slice A0 l0.length c0, .func (.func g) #[] lb] w fun e w' => e = .returned (.int .i64 r) ∧ Below w.heap.size w w' := by
  have HR0 := jA hr0
  have HP := jA hp
  have H0 := jA h
  have hbig : l0.length ≤ 9223372036854775807 := hr0.2.1
  clear hr0 hc0 hp h
  go_enter Try.func287, Try.ntmps287
  go_wp2
  go_loopg [5, 8] l0.length (fun gg _ s8 wr => ∃ kk : Int, s8 = .int .i64 kk ∧ Aside0 (0 ≤ kk ∧ kk ≤ l0.length ∧ l0.length - kk ≤ gg) ∧ Aside0 (Below w.heap.size w wr) ∧ Aside0 (idxO p (l0.drop kk.toNat) kk = some r))
  case atStart => exact ⟨0, by simp, ⟨by omega⟩, ⟨jU _ w⟩, H0⟩
  case round =>
    obtain ⟨kk, rfl, HK, HB, HA⟩ := hrel
    have ⟨hk0, hk1, hk2⟩ := HK.out
    by_cases hlt : kk < (l0.length : Int)
    · have H := HA.out
      rw [idxO_drop p z58 l0 kk hk0 hlt] at H
      obtain ⟨t, ht, H⟩ := Option.bind_eq_some_iff.1 H
      have hcall := HP.out wr (rd_T58 l0 kk) t HB.out ht
      obtain ⟨ad, e1, hx0, hx1, hx2⟩ := at_T58 (jY HR0.out HB.out) kk hk0 hlt
      cases e1
      have hlt0 := jK hlt
      have hlt1 := eq_true hlt
      have hk01 := eq_true hk0
      cases t with
      | true =>
        rw [if_pos rfl] at H
        have H' := jA H
        clear H hk2 hk1 ht
        go_wp2_with (go_at_fn g; refine hcall.mono ?_; rintro e w' ⟨rfl, hb'⟩)
        go_ret
        exact ⟨by rw [← jM H'.out]; rfl, hb'⟩
      | false =>
        rw [if_neg (by decide)] at H
        have H' := jA H
        clear H hk2 hk1 ht
        go_wp2_with (go_at_fn g; refine hcall.mono ?_; rintro e w' ⟨rfl, hb'⟩)
        go_roundg (gk - 1)
        case measure => have := HK.out; omega
        case rel =>
          have hK := HK.out
          exact ⟨kk + 1, (by first | rfl | rw [show wrap64 (kk + 1) = kk + 1 by unfold wrap64; omega]), ⟨by omega⟩, ⟨hb'⟩, H'⟩
    · have hlt0 := jV hlt
      have hlt1 := eq_false hlt
      clear hk2
      go_wp2
      go_ret
      have H := HA.out
      rw [List.drop_of_length_le (by omega), idxO] at H
      exact ⟨by rw [← jM H]; rfl, HB.out⟩



/-! ### impl_Clue_220: function 220 -/
-- GIVEN slices.ContainsFunc[[]loop.example/g01305/impl.Clue,loop.example/g01305/impl.Clue] raw=1
theorem containsFunc_Clue (p : S58 → Option Bool) (r : Int) (g : Nat) (lb : Array Value) (eg : ∀ args w, (callFunc g args).run Try.prog w = .ok (.enter g args) w) (A0 : Option Addr) (c0 : Nat) (l0 : List S58) (w : World) (hr0 : Kd.C k58 w A0 l0.length l0) (hc0 : l0.length ≤ c0)
    (hp : PredC g lb p w) (h : idxO p l0 0 = some r) :
    Calls Try.prog 220 #[.slice A0 l0.length c0, .func (.func g) #[] lb] w fun e w' => e = .returned (.bool (decide (0 ≤ r))) ∧ Below w.heap.size w w' := by
  have H0 := jA h
  clear h
  go_enter Try.func220, Try.ntmps220
  go_wp2_with (go_at_call 287; refine (indexFunc_Clue p r g lb eg A0 c0 l0 _ hr0 hc0 hp H0.out).mono ?_; rintro e w' ⟨rfl, hb'⟩)
  go_ret
  exact ⟨rfl, hb'⟩



/-! ### impl_IsPuzzle_1: function 221 -/
def impl_IsPuzzle_1.f (k : Nat) (a0_0 : Int) (a0_1 : Int) (a0_2 : Int) : Option (Bool) := (impl_IsClue.f k a0_0 a0_1 a0_2).bind fun t317 => (some (!t317))
theorem impl_IsPuzzle_1.calls (k : Nat) (a0_0 : Int) (a0_1 : Int) (a0_2 : Int) (r : Bool) (w : World) (h : impl_IsPuzzle_1.f k a0_0 a0_1 a0_2 = some r) :
 Calls Try.prog 221 #[.agg #[.int .i64 a0_0, .int .i64 a0_1, .int .i64 a0_2]] w fun e w' => e = .returned (.bool r) ∧ Below w.heap.size w w' := by
 have hu58 := Try.underlying58
 have HB := jA (jU w.heap.size w)
 have H := h; unfold impl_IsPuzzle_1.f at H
 clear h
 replace H := jD H
 obtain ⟨t317, A20, H⟩ := H
 have A2 := jA A20
 clear A20
 obtain rfl := jM H
 go_enter Try.func221, Try.ntmps221
 go_wp2_with (first | ((with_reducible refine gate_dst (N := 1) rfl ?_); refine box_event ?hg (N := 1) ?hd (cs := #[.int .i64 a0_0, .int .i64 a0_1, .int .i64 a0_2]) (t := 58) ?hr ?_; (case hd => rfl); (case hg => rfl); (case hr => first | (go_simp; done) | (go_simp; rfl)); intro gb316 hg w3 hbox hb; have BK316 := jA (hbox); have GW316 := jA ((by rw [hg]; exact (jL Ub) : w.heap.size ≤ gb316)); have GE316 := jA ((by rw [hg]; exact (jL Ub) : w.heap.size ≤ gb316)); replace HB := jA (jB Ub hb); clear hb hbox hg; have hcz4_0 : w3.cell? ⟨gb316, 0, none⟩ = some (.int .i64 a0_0) := (jE BK316.out 0).trans rfl; have hcz4_1 : w3.cell? ⟨gb316, 1, none⟩ = some (.int .i64 a0_1) := (jE BK316.out 1).trans rfl; have hcz4_2 : w3.cell? ⟨gb316, 2, none⟩ = some (.int .i64 a0_2) := (jE BK316.out 2).trans rfl; have hfz4_0 := jF BK316.out 0; have hfz4_1 := jF BK316.out 1; have hfz4_2 := jF BK316.out 2) | (refine Gl 4 #[.agg #[.int .i64 a0_0, .int .i64 a0_1, .int .i64 a0_2]] Try.func101 ?_; (with_reducible refine (impl_IsClue.calls k a0_0 a0_1 a0_2 t317 _ A2.out).mono ?_); rintro e w5 ⟨rfl, hb⟩; refine ⟨_, rfl, ?_⟩; replace BK316 := jA (jN (g := gb316) (o := .cells #[.int .i64 a0_0, .int .i64 a0_1, .int .i64 a0_2] 58 (0, 0)) (Bm BK316.out) hb); replace HB := jA (jB Ub hb); clear hb))
 go_ret
 exact ⟨Re, Ub⟩

/-! ### impl_IsPuzzle: function 84 -/
-- GIVEN loop.example/g01305/impl.IsPuzzle rounds=1
-- NEEDS loop.example/g01305/impl.IsPuzzle$1
/-- Is there an element at which p holds, of those from the first on that are asked. -/
def impl_IsPuzzle.f (k : Nat) (l0_0 : List S58) : Option (Bool) := if (l0_0.length : Int) ≤ 6 then (idxO (fun x => impl_IsPuzzle_1.f k x.f0 x.f1 x.f2) l0_0 0).bind fun t => (some (!(decide (0 ≤ t)))) else (some false)
set_option maxHeartbeats 2000000 in
theorem impl_IsPuzzle.calls (k : Nat) (A0_0 : Option Addr) (c0_0 : Nat) (l0_0 : List (S58)) (r : Bool) (w : World) (hr0_0 : Kd.C k58 w A0_0 l0_0.length l0_0) (hc0_0 : l0_0.length ≤ c0_0) (h : impl_IsPuzzle.f k l0_0 = some r) :
    Calls Try.prog 84 #[.agg #[.slice A0_0 l0_0.length c0_0]] w fun e w' => e = .returned (.bool r) ∧ Below w.heap.size w w' := by
  have hu52 := Try.underlying52
  have HR := jA hr0_0
  by_cases c : (l0_0.length : Int) ≤ 6
  · unfold impl_IsPuzzle.f at h
    rw [if_pos c] at h
    obtain ⟨t, ht, h⟩ := Option.bind_eq_some_iff.1 h
    obtain rfl := jM h
    clear h
    have HT := jA ht
    have c0 := jK c
    clear ht
    have hP : Aside0 (∀ W : World, PredC 221 #[] (fun x => impl_IsPuzzle_1.f k x.f0 x.f1 x.f2) W) := ⟨fun W W' x r hb hx => (impl_IsPuzzle_1.calls k x.f0 x.f1 x.f2 r W' hx).mono fun e w' ⟨he, hb'⟩ => ⟨he, hb.trans (hb'.mono hb.size)⟩⟩
    go_enter Try.func84, Try.ntmps84
    go_wp2_with (go_at_call 220; refine (containsFunc_Clue _ t 221 #[] (enters_of Try.func221 (by kernel_rfl) rfl) A0_0 c0_0 l0_0 _ (jY HR.out ((jU _ _).alloc (jX _) _)) hc0_0 (hP.out _) HT.out).mono ?_; rintro e w' ⟨rfl, hb'⟩)
    go_ret
    exact ⟨rfl, ((jU _ _).alloc (jX _) _).trans (hb'.mono (by simp))⟩
  · unfold impl_IsPuzzle.f at h
    rw [if_neg c] at h
    obtain rfl := jM h
    clear h
    have c0 := jV c
    go_enter Try.func84, Try.ntmps84
    go_wp2
    go_ret
    exact ⟨rfl, (jU _ _).alloc (jX _) _⟩


end Go.Proofs.Ytgeoihhibglhgaa.PFnPiecesHidden
