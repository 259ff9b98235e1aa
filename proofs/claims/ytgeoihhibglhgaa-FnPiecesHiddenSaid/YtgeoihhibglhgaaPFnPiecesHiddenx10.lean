-- printed by wip/xp
import Derived.Test.YtgeoihhibglhgaaPFnPiecesHiddenx0
import Derived.Test.YtgeoihhibglhgaaPFnPiecesHiddenx3
import Derived.Test.YtgeoihhibglhgaaPFnPiecesHiddenx4
import Derived.Test.YtgeoihhibglhgaaPFnPiecesHiddenx6
import Derived.Test.YtgeoihhibglhgaaPFnPiecesHiddenx8
set_option maxHeartbeats 8000000
set_option maxRecDepth 100000
namespace Go.Proofs.Ytgeoihhibglhgaa.PFnPiecesHidden
open Go.RowKit Go.Proofs.YtgeoihhibglhgaaW.PrintWords Go.Proofs.YtgeoihhibglhgaaW.PrintLast Go.Proofs.YtgeoihhibglhgaaW.PrintMore Go.Proofs.Ytgeoihhibglhgaa.Xmv
attribute [local go_sem] max2_int min2_int max_two min_two max_three min_three max_four min_four
set_option linter.unusedVariables false
set_option linter.unusedSimpArgs false

/-! ### spec_l1Cur_clue: function 230 -/
def spec_l1Cur_clue.j0 : Nat → Bool → List Int → Int → Int → Int → Int → Int → Option (Int × Int × Int × Int × Int)
 | 0, _, _, _, _, _, _, _ => none
 | k + 1, x24, x1000, x1001, x1002, x332000, x332001, x332002 => if x24 = true then ((spec_l1Cur_pick.f x1000 x1001 x1002 3).bind fun bt336 => ((spec_l1Cur_pick.f x1000 bt336.2.1 bt336.2.2 9).bind fun bt339 => (some (x332000, x332001, wrap64 (bt336.1 - (wrap64 (Int.tdiv bt339.1 8))), bt339.2.1, bt339.2.2)))) else (some (x332000, x332001, x332002, x1001, x1002))
def spec_l1Cur_clue.f (k : Nat) (s0_0 : List Int) (s0_1 : Int) (s0_2 : Int) : Option (Int × Int × Int × Int × Int) := (spec_l1Cur_pick.f s0_0 s0_1 s0_2 6).bind fun bt319 => ((spec_l1Cur_pick.f s0_0 bt319.2.1 bt319.2.2 9).bind fun bt322 => ((spec_l1Cur_pick.f s0_0 bt322.2.1 bt322.2.2 6).bind fun bt325 => ((spec_l1Cur_pick.f s0_0 bt325.2.1 bt325.2.2 9).bind fun bt328 => ((spec_pzAlone.f (wrap64 (bt319.1 + (wrap64 (Int.tdiv bt322.1 8))))).bind fun t332 => (if t332 = true then ((spec_l1Cur_one.f s0_0 bt328.2.1 bt328.2.2 8).bind fun bt333 => (spec_l1Cur_clue.j0 k bt333.1 s0_0 bt333.2.1 bt333.2.2 (wrap64 (bt319.1 + (wrap64 (Int.tdiv bt322.1 8)))) (wrap64 (bt325.1 - (wrap64 (Int.tdiv bt328.1 8)))) 0)) else (spec_l1Cur_clue.j0 k true s0_0 bt328.2.1 bt328.2.2 (wrap64 (bt319.1 + (wrap64 (Int.tdiv bt322.1 8)))) (wrap64 (bt325.1 - (wrap64 (Int.tdiv bt328.1 8)))) 0))))))
theorem spec_l1Cur_clue.calls (k : Nat) (g : Nat) (s0_0 : List Int) (s0_1 : Int) (s0_2 : Int) (r1 : Int) (r2 : Int) (r3 : Int) (r4 : Int) (r5 : Int) (w0 w : World) (hI : IsS102 w0 w g s0_0 s0_1 s0_2) (hB : Below w0.heap.size w0 w) (h : spec_l1Cur_clue.f k s0_0 s0_1 s0_2 = some (r1, r2, r3, r4, r5)) :
 Calls Try.prog 230 #[.pointer (some ⟨g, 0, none⟩)] w fun e w' => e = .returned (.agg #[.int .i64 r1, .int .i64 r2, .int .i64 r3]) ∧ IsS102 w0 w' g s0_0 r4 r5 ∧ Below w0.heap.size w0 w' ∧ KeepBut w w' g none := by
 have hu58 := Try.underlying58
 have HI0 := jA hI
 have HK := jA (KeepBut.refl w g none)
 have HL := jA hB.size
 clear hI
 have HW0 := jA hB.size
 have HB := jA hB
 clear hB
 have H := h; unfold spec_l1Cur_clue.f at H
 clear h
 replace H := jD H
 obtain ⟨⟨t319, t320, t321⟩, A20, H⟩ := H
 have A2 := jA A20
 clear A20
 replace H := jD H
 obtain ⟨⟨t322, t323, t324⟩, A30, H⟩ := H
 have A3 := jA A30
 clear A30
 replace H := jD H
 obtain ⟨⟨t325, t326, t327⟩, A40, H⟩ := H
 have A4 := jA A40
 clear A40
 replace H := jD H
 obtain ⟨⟨t328, t329, t330⟩, A50, H⟩ := H
 have A5 := jA A50
 clear A50
 have HC6 := jA H
 clear H
 go_enter Try.func230, Try.ntmps230
 go_upto_region 2 with (first | ((with_reducible refine gate_dst (N := 2) rfl ?_); refine box_event ?hg (N := 2) ?hd (cs := #[.int .i64 0, .int .i64 0, .int .i64 0]) (t := 58) ?hr ?_; (case hd => rfl); (case hg => rfl); (case hr => first | (go_simp; done) | (go_simp; rfl)); intro gb318 hg w7 hbox hb; replace HB := jA (jB (by repeat (first | (with_reducible first | exact HB.out | apply Xa | refine jH ?_ (qE HI0.out)) | exact HB.out)) hb); have BK318 := jA (hbox); have GW318 := jA ((by rw [hg]; exact (je (w := w) (g := g) (row := none) (by repeat (first | (with_reducible first | exact HK.out | apply jG | apply Xk) | exact HK.out))) : w.heap.size ≤ gb318)); have GE318 := jA ((Nat.le_trans HW0.out (by rw [hg]; exact (je (w := w) (g := g) (row := none) (by repeat (first | (with_reducible first | exact HK.out | apply jG | apply Xk) | exact HK.out))) : w.heap.size ≤ gb318) : w0.heap.size ≤ gb318)); replace HK := jA (jS (by repeat (first | (with_reducible first | exact HK.out | apply jG | apply Xk) | exact HK.out)) (jb hb g none) (.inl rfl)); have NB0_318 := jA ((by rw [hg]; exact jZ (qD (show IsS102 w0 _ g s0_0 s0_1 s0_2 from by repeat (first | (with_reducible first | exact HI0.out | apply Xs | apply qG | apply qH) | exact HI0.out))) : g ≠ gb318)); have NB318_0 := jA ((by rw [hg]; exact ja (qD (show IsS102 w0 _ g s0_0 s0_1 s0_2 from by repeat (first | (with_reducible first | exact HI0.out | apply Xs | apply qG | apply qH) | exact HI0.out))) : gb318 ≠ g)); replace HI0 := jA (qA (by repeat (first | (with_reducible first | exact HI0.out | apply Xs | apply qG | apply qH) | exact HI0.out)) hb); clear hb hbox hg) | (refine Gl 5 #[.pointer (some ⟨g, 0, none⟩), .int .i64 6] Try.func214 ?_; (with_reducible refine (spec_l1Cur_pick.calls g s0_0 s0_1 s0_2 6 t319 t320 t321 w0 _ ?side1 ?side2 A2.out).mono ?_); (case side1 => repeat (first | (with_reducible first | exact HI0.out | apply Xs | apply qG | apply qH | refine qF ?_ NB0_318.out _) | exact HI0.out)); (case side2 => repeat (first | (with_reducible first | exact HB.out | apply Xa | refine jH ?_ (qE HI0.out) | refine jH ?_ GE318.out) | exact HB.out)); rintro e w8 ⟨rfl, hi, hb, hk⟩; refine ⟨_, rfl, ?_⟩; replace BK318 := jA (jd hk (g' := gb318) (o := .cells #[.int .i64 0, .int .i64 0, .int .i64 0] 58 (0, 0)) (Bm BK318.out) NB318_0.out (by simp)); replace HK := jA (jS (by repeat (first | (with_reducible first | exact HK.out | apply jG | apply Xk | refine jT ?_ GW318.out _) | exact HK.out)) hk (.inl rfl)); replace HB := jA (hb); replace HI0 := jA (hi); clear hb hk hi) | (refine Gl 7 #[.pointer (some ⟨g, 0, none⟩), .int .i64 9] Try.func214 ?_; (with_reducible refine (spec_l1Cur_pick.calls g s0_0 t320 t321 9 t322 t323 t324 w0 _ ?side1 ?side2 A3.out).mono ?_); (case side1 => repeat (first | (with_reducible first | exact HI0.out | apply Xs | apply qG | apply qH | refine qF ?_ NB0_318.out _) | exact HI0.out)); (case side2 => repeat (first | (with_reducible first | exact HB.out | apply Xa | refine jH ?_ (qE HI0.out) | refine jH ?_ GE318.out) | exact HB.out)); rintro e w9 ⟨rfl, hi, hb, hk⟩; refine ⟨_, rfl, ?_⟩; replace BK318 := jA (jd hk (g' := gb318) (o := .cells #[.int .i64 0, .int .i64 0, .int .i64 0] 58 (0, 0)) (Bm BK318.out) NB318_0.out (by simp)); replace HK := jA (jS (by repeat (first | (with_reducible first | exact HK.out | apply jG | apply Xk | refine jT ?_ GW318.out _) | exact HK.out)) hk (.inl rfl)); replace HB := jA (hb); replace HI0 := jA (hi); clear hb hk hi) | (refine Gl 11 #[.pointer (some ⟨g, 0, none⟩), .int .i64 6] Try.func214 ?_; (with_reducible refine (spec_l1Cur_pick.calls g s0_0 t323 t324 6 t325 t326 t327 w0 _ ?side1 ?side2 A4.out).mono ?_); (case side1 => repeat (first | (with_reducible first | exact HI0.out | apply Xs | apply qG | apply qH | refine qF ?_ NB0_318.out _) | exact HI0.out)); (case side2 => repeat (first | (with_reducible first | exact HB.out | apply Xa | refine jH ?_ (qE HI0.out) | refine jH ?_ GE318.out) | exact HB.out)); rintro e w10 ⟨rfl, hi, hb, hk⟩; refine ⟨_, rfl, ?_⟩; replace BK318 := jA (jd hk (g' := gb318) (o := .cells #[.int .i64 0, .int .i64 0, .int .i64 0] 58 (0, 0)) (Bm BK318.out) NB318_0.out (by simp)); replace HK := jA (jS (by repeat (first | (with_reducible first | exact HK.out | apply jG | apply Xk | refine jT ?_ GW318.out _) | exact HK.out)) hk (.inl rfl)); replace HB := jA (hb); replace HI0 := jA (hi); clear hb hk hi) | (refine Gl 13 #[.pointer (some ⟨g, 0, none⟩), .int .i64 9] Try.func214 ?_; (with_reducible refine (spec_l1Cur_pick.calls g s0_0 t326 t327 9 t328 t329 t330 w0 _ ?side1 ?side2 A5.out).mono ?_); (case side1 => repeat (first | (with_reducible first | exact HI0.out | apply Xs | apply qG | apply qH | refine qF ?_ NB0_318.out _) | exact HI0.out)); (case side2 => repeat (first | (with_reducible first | exact HB.out | apply Xa | refine jH ?_ (qE HI0.out) | refine jH ?_ GE318.out) | exact HB.out)); rintro e w11 ⟨rfl, hi, hb, hk⟩; refine ⟨_, rfl, ?_⟩; replace BK318 := jA (jd hk (g' := gb318) (o := .cells #[.int .i64 0, .int .i64 0, .int .i64 0] 58 (0, 0)) (Bm BK318.out) NB318_0.out (by simp)); replace HK := jA (jS (by repeat (first | (with_reducible first | exact HK.out | apply jG | apply Xk | refine jT ?_ GW318.out _) | exact HK.out)) hk (.inl rfl)); replace HB := jA (hb); replace HI0 := jA (hi); clear hb hk hi) | ((with_reducible refine gate_dst (N := 3) rfl ?_); refine box_event ?hg (N := 3) ?hd (cs := #[.int .i64 0, .int .i64 0, .int .i64 0]) (t := 58) ?hr ?_; (case hd => rfl); (case hg => rfl); (case hr => first | (go_simp; done) | (go_simp; rfl)); intro gb331 hg w12 hbox hb; replace HB := jA (jB (by repeat (first | (with_reducible first | exact HB.out | apply Xa | refine jH ?_ (qE HI0.out) | refine jH ?_ GE318.out) | exact HB.out)) hb); have BK331 := jA (hbox); have GW331 := jA ((by rw [hg]; exact (je (w := w) (g := g) (row := none) (by repeat (first | (with_reducible first | exact HK.out | apply jG | apply Xk | refine jT ?_ GW318.out _) | exact HK.out))) : w.heap.size ≤ gb331)); have GE331 := jA ((Nat.le_trans HW0.out (by rw [hg]; exact (je (w := w) (g := g) (row := none) (by repeat (first | (with_reducible first | exact HK.out | apply jG | apply Xk | refine jT ?_ GW318.out _) | exact HK.out))) : w.heap.size ≤ gb331) : w0.heap.size ≤ gb331)); replace HK := jA (jS (by repeat (first | (with_reducible first | exact HK.out | apply jG | apply Xk | refine jT ?_ GW318.out _) | exact HK.out)) (jb hb g none) (.inl rfl)); have NB318_331 := jA ((by rw [hg]; exact jZ (blk_lt (g := gb318) (o := .cells #[.int .i64 0, .int .i64 0, .int .i64 0] 58 (0, 0)) (Bm BK318.out)) : gb318 ≠ gb331)); have NB331_318 := jA ((by rw [hg]; exact ja (blk_lt (g := gb318) (o := .cells #[.int .i64 0, .int .i64 0, .int .i64 0] 58 (0, 0)) (Bm BK318.out)) : gb331 ≠ gb318)); replace BK318 := jA (jN (g := gb318) (o := .cells #[.int .i64 0, .int .i64 0, .int .i64 0] 58 (0, 0)) (Bm BK318.out) hb); have NB0_331 := jA ((by rw [hg]; exact jZ (qD (show IsS102 w0 _ g s0_0 t329 t330 from by repeat (first | (with_reducible first | exact HI0.out | apply Xs | apply qG | apply qH | refine qF ?_ NB0_318.out _) | exact HI0.out))) : g ≠ gb331)); have NB331_0 := jA ((by rw [hg]; exact ja (qD (show IsS102 w0 _ g s0_0 t329 t330 from by repeat (first | (with_reducible first | exact HI0.out | apply Xs | apply qG | apply qH | refine qF ?_ NB0_318.out _) | exact HI0.out))) : gb331 ≠ g)); replace HI0 := jA (qA (by repeat (first | (with_reducible first | exact HI0.out | apply Xs | apply qG | apply qH | refine qF ?_ NB0_318.out _) | exact HI0.out)) hb); clear hb hbox hg; have hnb13 := NB331_318.out; have hnc13 := NB318_331.out; have hnb14 := NB331_0.out; have hnc14 := NB0_331.out; have hcz15_0 : w12.cell? ⟨gb331, 0, none⟩ = some (.int .i64 0) := (jE BK331.out 0).trans rfl; have hcz15_1 : w12.cell? ⟨gb331, 1, none⟩ = some (.int .i64 0) := (jE BK331.out 1).trans rfl; have hcz15_2 : w12.cell? ⟨gb331, 2, none⟩ = some (.int .i64 0) := (jE BK331.out 2).trans rfl; have hfz15_0 := jF BK331.out 0; have hfz15_1 := jF BK331.out 1; have hfz15_2 := jF BK331.out 2))
 (try simp only [Act.put, List.setIfInBounds_toArray, List.set_cons_zero, List.set_cons_succ])
 go_cut [24] (fun v24 wc => ∃ (kq : Nat) (x24_5 : Bool) (x1001_5 : Int) (x1002_5 : Int), v24 = .bool x24_5 ∧ Aside0 (spec_l1Cur_clue.j0 kq x24_5 s0_0 x1001_5 x1002_5 (wrap64 (t319 + (wrap64 (Int.tdiv t322 8)))) (wrap64 (t325 - (wrap64 (Int.tdiv t328 8)))) 0 = some (r1, r2, r3, r4, r5)) ∧ Aside0 (kq ≤ k) ∧ Aside0 (wc.heap[gb318]? = some (.cells #[.int .i64 0, .int .i64 0, .int .i64 0] 58 (0, 0))) ∧ Aside0 (wc.heap[gb331]? = some (.cells #[.int .i64 (wrap64 (t319 + (wrap64 (Int.tdiv t322 8)))), .int .i64 (wrap64 (t325 - (wrap64 (Int.tdiv t328 8)))), .int .i64 0] 58 (0, 0))) ∧ Aside0 (IsS102 w0 wc g s0_0 x1001_5 x1002_5) ∧ Aside0 (KeepBut w wc g none) ∧ Aside0 (Below w0.heap.size w0 wc))
 case first =>
  have H := HC6.out
  clear HC6
  replace H := jD H
  obtain ⟨t332, A160, H⟩ := H
  have A16 := jA A160
  clear A160
  replace H := Iw H; rcases H with ⟨rfl, H⟩ | ⟨rfl, H⟩
  · replace H := jD H
    obtain ⟨⟨t333, t334, t335⟩, A180, H⟩ := H
    have A18 := jA A180
    clear A180
    have H' := jA H
    clear H
    have hnb19 := NB331_318.out
    have hnc19 := NB318_331.out
    have hnb20 := NB331_0.out
    have hnc20 := NB0_331.out
    have hcz21_0 : w12.cell? ⟨gb331, 0, none⟩ = some (.int .i64 0) := (jE BK331.out 0).trans rfl
    have hcz21_1 : w12.cell? ⟨gb331, 1, none⟩ = some (.int .i64 0) := (jE BK331.out 1).trans rfl
    have hcz21_2 : w12.cell? ⟨gb331, 2, none⟩ = some (.int .i64 0) := (jE BK331.out 2).trans rfl
    have hfz21_0 := jF BK331.out 0
    have hfz21_1 := jF BK331.out 1
    have hfz21_2 := jF BK331.out 2
    go_wp2_with (first | (refine Gl 19 #[.int .i64 (wrap64 (t319 + (wrap64 (Int.tdiv t322 8))))] Try.func285 ?_; (with_reducible refine (spec_pzAlone.calls (wrap64 (t319 + (wrap64 (Int.tdiv t322 8)))) true _ A16.out).mono ?_); rintro e w' ⟨rfl, ⟨nd, rfl⟩⟩; refine ⟨_, rfl, ?_⟩) | (go_at_call 212; (with_reducible refine (spec_l1Cur_one.calls g s0_0 t329 t330 8 t333 t334 t335 w0 _ ?side1 ?side2 A18.out).mono ?_); (case side1 => repeat (first | (with_reducible first | exact HI0.out | apply Xs | apply qG | apply qH | refine qF ?_ NB0_318.out _ | refine qF ?_ NB0_331.out _) | exact HI0.out)); (case side2 => repeat (first | (with_reducible first | exact HB.out | apply Xa | refine jH ?_ (qE HI0.out) | refine jH ?_ GE318.out | refine jH ?_ GE331.out) | exact HB.out)); rintro e w22 ⟨rfl, hi, hb, hk⟩; replace BK318 := jA (jd hk (g' := gb318) (o := .cells #[.int .i64 0, .int .i64 0, .int .i64 0] 58 (0, 0)) (by (with_reducible repeat refine Xg ?_); refine jk ?_ NB318_331.out _; (with_reducible repeat refine Xg ?_); refine jk ?_ NB318_331.out _; (with_reducible repeat refine Xg ?_); refine jk ?_ NB318_331.out _; (with_reducible repeat refine Xg ?_); exact BK318.out) NB318_0.out (by simp)); replace BK331 := jA (jd hk (g' := gb331) (o := .cells #[.int .i64 (wrap64 (t319 + (wrap64 (Int.tdiv t322 8)))), .int .i64 (wrap64 (t325 - (wrap64 (Int.tdiv t328 8)))), .int .i64 0] 58 (0, 0)) (by (with_reducible repeat refine Xg ?_); refine jp (cs := #[.int .i64 (wrap64 (t319 + (wrap64 (Int.tdiv t322 8)))), .int .i64 (wrap64 (t325 - (wrap64 (Int.tdiv t328 8)))), .int .i64 0]) ?_ 2 _ rfl; (with_reducible repeat refine Xg ?_); refine jp (cs := #[.int .i64 (wrap64 (t319 + (wrap64 (Int.tdiv t322 8)))), .int .i64 0, .int .i64 0]) ?_ 1 _ rfl; (with_reducible repeat refine Xg ?_); refine jp (cs := #[.int .i64 0, .int .i64 0, .int .i64 0]) ?_ 0 _ rfl; (with_reducible repeat refine Xg ?_); exact BK331.out) NB331_0.out (by simp)); replace HK := jA (jS (by repeat (first | (with_reducible first | exact HK.out | apply jG | apply Xk | refine jT ?_ GW318.out _ | refine jT ?_ GW331.out _) | exact HK.out)) hk (.inl rfl)); replace HB := jA (hb); replace HI0 := jA (hi); clear hb hk hi))
    go_meet
    case rel => exact ⟨_, (t333), (t334), (t335), Rs, H', ⟨by first | omega | exact jX _⟩, ⟨Bm BK318.out⟩, ⟨Bm BK331.out⟩, ⟨by repeat (first | (with_reducible first | exact HI0.out | apply Xs | apply qG | apply qH | refine qF ?_ NB0_318.out _ | refine qF ?_ NB0_331.out _) | exact HI0.out)⟩, ⟨by repeat (first | (with_reducible first | exact HK.out | apply jG | apply Xk | refine jT ?_ GW318.out _ | refine jT ?_ GW331.out _) | exact HK.out)⟩, ⟨by repeat (first | (with_reducible first | exact HB.out | apply Xa | refine jH ?_ (qE HI0.out) | refine jH ?_ GE318.out | refine jH ?_ GE331.out) | exact HB.out)⟩⟩
  have H' := jA H
  clear H
  have hnb23 := NB331_318.out
  have hnc23 := NB318_331.out
  have hnb24 := NB331_0.out
  have hnc24 := NB0_331.out
  have hcz25_0 : w12.cell? ⟨gb331, 0, none⟩ = some (.int .i64 0) := (jE BK331.out 0).trans rfl
  have hcz25_1 : w12.cell? ⟨gb331, 1, none⟩ = some (.int .i64 0) := (jE BK331.out 1).trans rfl
  have hcz25_2 : w12.cell? ⟨gb331, 2, none⟩ = some (.int .i64 0) := (jE BK331.out 2).trans rfl
  have hfz25_0 := jF BK331.out 0
  have hfz25_1 := jF BK331.out 1
  have hfz25_2 := jF BK331.out 2
  go_wp2_with (first | (refine Gl 19 #[.int .i64 (wrap64 (t319 + (wrap64 (Int.tdiv t322 8))))] Try.func285 ?_; (with_reducible refine (spec_pzAlone.calls (wrap64 (t319 + (wrap64 (Int.tdiv t322 8)))) false _ A16.out).mono ?_); rintro e w' ⟨rfl, ⟨nd, rfl⟩⟩; refine ⟨_, rfl, ?_⟩))
  go_meet
  case rel => exact ⟨_, (true), (t329), (t330), Rs, H', ⟨by first | omega | exact jX _⟩, ⟨by (with_reducible repeat refine Xg ?_); refine jk ?_ NB318_331.out _; (with_reducible repeat refine Xg ?_); refine jk ?_ NB318_331.out _; (with_reducible repeat refine Xg ?_); refine jk ?_ NB318_331.out _; (with_reducible repeat refine Xg ?_); exact BK318.out⟩, ⟨by (with_reducible repeat refine Xg ?_); refine jp (cs := #[.int .i64 (wrap64 (t319 + (wrap64 (Int.tdiv t322 8)))), .int .i64 (wrap64 (t325 - (wrap64 (Int.tdiv t328 8)))), .int .i64 0]) ?_ 2 _ rfl; (with_reducible repeat refine Xg ?_); refine jp (cs := #[.int .i64 (wrap64 (t319 + (wrap64 (Int.tdiv t322 8)))), .int .i64 0, .int .i64 0]) ?_ 1 _ rfl; (with_reducible repeat refine Xg ?_); refine jp (cs := #[.int .i64 0, .int .i64 0, .int .i64 0]) ?_ 0 _ rfl; (with_reducible repeat refine Xg ?_); exact BK331.out⟩, ⟨by repeat (first | (with_reducible first | exact HI0.out | apply Xs | apply qG | apply qH | refine qF ?_ NB0_318.out _ | refine qF ?_ NB0_331.out _) | exact HI0.out)⟩, ⟨by repeat (first | (with_reducible first | exact HK.out | apply jG | apply Xk | refine jT ?_ GW318.out _ | refine jT ?_ GW331.out _) | exact HK.out)⟩, ⟨by repeat (first | (with_reducible first | exact HB.out | apply Xa | refine jH ?_ (qE HI0.out) | refine jH ?_ GE318.out | refine jH ?_ GE331.out) | exact HB.out)⟩⟩
 case rest =>
  clear HC6
  try clear hcz15_0
  try clear hcz15_1
  try clear hcz15_2
  try clear hcz21_0
  try clear hcz21_1
  try clear hcz21_2
  try clear hcz25_0
  try clear hcz25_1
  try clear hcz25_2
  try clear hfz15_0
  try clear hfz15_1
  try clear hfz15_2
  try clear hfz21_0
  try clear hfz21_1
  try clear hfz21_2
  try clear hfz25_0
  try clear hfz25_1
  try clear hfz25_2
  obtain ⟨kq, x24_5, x1001_5, x1002_5, rfl, HA, HJ5, BK318, BK331, HI0, HK, HB⟩ := hcut
  cases kq with
  | zero => exact absurd HA.out (by simp [spec_l1Cur_clue.j0])
  | succ kj5 =>
   have H := HA.out
   clear HA
   simp only [spec_l1Cur_clue.j0] at H
   by_cases c26 : x24_5 = true
   · subst c26
     have H1 : ((spec_l1Cur_pick.f s0_0 x1001_5 x1002_5 3).bind fun bt336 => ((spec_l1Cur_pick.f s0_0 bt336.2.1 bt336.2.2 9).bind fun bt339 => (some ((wrap64 (t319 + (wrap64 (Int.tdiv t322 8)))), (wrap64 (t325 - (wrap64 (Int.tdiv t328 8)))), wrap64 (bt336.1 - (wrap64 (Int.tdiv bt339.1 8))), bt339.2.1, bt339.2.2)))) = some (r1, r2, r3, r4, r5) := by rw [if_pos rfl] at H; exact H
     clear H
     have H := H1
     clear H1
     replace H := jD H
     obtain ⟨⟨t336, t337, t338⟩, A270, H⟩ := H
     have A27 := jA A270
     clear A270
     replace H := jD H
     obtain ⟨⟨t339, t340, t341⟩, A280, H⟩ := H
     have A28 := jA A280
     clear A280
     simp only [Option.some.injEq, Prod.mk.injEq] at H
     obtain ⟨rfl, rfl, rfl, rfl, rfl⟩ := H
     go_wp2_with (first | (refine Gl 26 #[.pointer (some ⟨g, 0, none⟩), .int .i64 3] Try.func214 ?_; (with_reducible refine (spec_l1Cur_pick.calls g s0_0 x1001_5 x1002_5 3 t336 t337 t338 w0 _ ?side1 ?side2 A27.out).mono ?_); (case side1 => repeat (first | (with_reducible first | exact HI0.out | apply Xs | apply qG | apply qH | refine qF ?_ NB0_318.out _ | refine qF ?_ NB0_331.out _) | exact HI0.out)); (case side2 => repeat (first | (with_reducible first | exact HB.out | apply Xa | refine jH ?_ (qE HI0.out) | refine jH ?_ GE318.out | refine jH ?_ GE331.out) | exact HB.out)); rintro e w29 ⟨rfl, hi, hb, hk⟩; refine ⟨_, rfl, ?_⟩; replace BK318 := jA (jd hk (g' := gb318) (o := .cells #[.int .i64 0, .int .i64 0, .int .i64 0] 58 (0, 0)) (Bm BK318.out) NB318_0.out (by simp)); replace BK331 := jA (jd hk (g' := gb331) (o := .cells #[.int .i64 (wrap64 (t319 + (wrap64 (Int.tdiv t322 8)))), .int .i64 (wrap64 (t325 - (wrap64 (Int.tdiv t328 8)))), .int .i64 0] 58 (0, 0)) (Bm BK331.out) NB331_0.out (by simp)); replace HK := jA (jS (by repeat (first | (with_reducible first | exact HK.out | apply jG | apply Xk | refine jT ?_ GW318.out _ | refine jT ?_ GW331.out _) | exact HK.out)) hk (.inl rfl)); replace HB := jA (hb); replace HI0 := jA (hi); clear hb hk hi) | (refine Gl 28 #[.pointer (some ⟨g, 0, none⟩), .int .i64 9] Try.func214 ?_; (with_reducible refine (spec_l1Cur_pick.calls g s0_0 t337 t338 9 t339 t340 t341 w0 _ ?side1 ?side2 A28.out).mono ?_); (case side1 => repeat (first | (with_reducible first | exact HI0.out | apply Xs | apply qG | apply qH | refine qF ?_ NB0_318.out _ | refine qF ?_ NB0_331.out _) | exact HI0.out)); (case side2 => repeat (first | (with_reducible first | exact HB.out | apply Xa | refine jH ?_ (qE HI0.out) | refine jH ?_ GE318.out | refine jH ?_ GE331.out) | exact HB.out)); rintro e w30 ⟨rfl, hi, hb, hk⟩; refine ⟨_, rfl, ?_⟩; replace BK318 := jA (jd hk (g' := gb318) (o := .cells #[.int .i64 0, .int .i64 0, .int .i64 0] 58 (0, 0)) (Bm BK318.out) NB318_0.out (by simp)); replace BK331 := jA (jd hk (g' := gb331) (o := .cells #[.int .i64 (wrap64 (t319 + (wrap64 (Int.tdiv t322 8)))), .int .i64 (wrap64 (t325 - (wrap64 (Int.tdiv t328 8)))), .int .i64 0] 58 (0, 0)) (Bm BK331.out) NB331_0.out (by simp)); replace HK := jA (jS (by repeat (first | (with_reducible first | exact HK.out | apply jG | apply Xk | refine jT ?_ GW318.out _ | refine jT ?_ GW331.out _) | exact HK.out)) hk (.inl rfl)); replace HB := jA (hb); replace HI0 := jA (hi); clear hb hk hi; have hnb31 := NB331_318.out; have hnc31 := NB318_331.out; have hnb32 := NB331_0.out; have hnc32 := NB0_331.out; have hcz33_0 : w30.cell? ⟨gb331, 0, none⟩ = some (.int .i64 (wrap64 (t319 + (wrap64 (Int.tdiv t322 8))))) := (jE BK331.out 0).trans rfl; have hcz33_1 : w30.cell? ⟨gb331, 1, none⟩ = some (.int .i64 (wrap64 (t325 - (wrap64 (Int.tdiv t328 8))))) := (jE BK331.out 1).trans rfl; have hcz33_2 : w30.cell? ⟨gb331, 2, none⟩ = some (.int .i64 0) := (jE BK331.out 2).trans rfl; have hfz33_0 := jF BK331.out 0; have hfz33_1 := jF BK331.out 1; have hfz33_2 := jF BK331.out 2; have hnb34 := NB318_0.out; have hnc34 := NB0_318.out; have hcz35_0 : w30.cell? ⟨gb318, 0, none⟩ = some (.int .i64 0) := (jE BK318.out 0).trans rfl; have hcz35_1 : w30.cell? ⟨gb318, 1, none⟩ = some (.int .i64 0) := (jE BK318.out 1).trans rfl; have hcz35_2 : w30.cell? ⟨gb318, 2, none⟩ = some (.int .i64 0) := (jE BK318.out 2).trans rfl; have hfz35_0 := jF BK318.out 0; have hfz35_1 := jF BK318.out 1; have hfz35_2 := jF BK318.out 2))
     refine bodyPost_ret (results_cell_row rfl _ _ gb318 58 #[.int .i64 (wrap64 (t319 + (wrap64 (Int.tdiv t322 8)))), .int .i64 (wrap64 (t325 - (wrap64 (Int.tdiv t328 8)))), .int .i64 (wrap64 (t336 - (wrap64 (Int.tdiv t339 8))))] (0, 0) _ rfl (by (with_reducible repeat refine Xg ?_); refine jp (cs := #[.int .i64 (wrap64 (t319 + (wrap64 (Int.tdiv t322 8)))), .int .i64 (wrap64 (t325 - (wrap64 (Int.tdiv t328 8)))), .int .i64 0]) ?_ 2 _ rfl; (with_reducible repeat refine Xg ?_); refine jp (cs := #[.int .i64 (wrap64 (t319 + (wrap64 (Int.tdiv t322 8)))), .int .i64 0, .int .i64 0]) ?_ 1 _ rfl; (with_reducible repeat refine Xg ?_); refine jp (cs := #[.int .i64 0, .int .i64 0, .int .i64 0]) ?_ 0 _ rfl; (with_reducible repeat refine Xg ?_); refine jk ?_ NB318_331.out _; (with_reducible repeat refine Xg ?_); exact BK318.out) Try.underlying58 rfl (by kernel_rfl)) rfl ?_
     exact ⟨Re, by repeat (first | (with_reducible first | exact HI0.out | apply Xs | apply qG | apply qH | refine qF ?_ NB0_318.out _ | refine qF ?_ NB0_331.out _) | exact HI0.out), by repeat (first | (with_reducible first | exact HB.out | apply Xa | refine jH ?_ (qE HI0.out) | refine jH ?_ GE318.out | refine jH ?_ GE331.out) | exact HB.out), by repeat (first | (with_reducible first | exact HK.out | apply jG | apply Xk | refine jT ?_ GW318.out _ | refine jT ?_ GW331.out _) | exact HK.out)⟩
   replace c26 := Bool.eq_false_iff.mpr c26
   subst c26
   have H1 : (some ((wrap64 (t319 + (wrap64 (Int.tdiv t322 8)))), (wrap64 (t325 - (wrap64 (Int.tdiv t328 8)))), 0, x1001_5, x1002_5)) = some (r1, r2, r3, r4, r5) := by rw [if_neg (show ¬ (false = true) by decide)] at H; exact H
   clear H
   have H := H1
   clear H1
   simp only [Option.some.injEq, Prod.mk.injEq] at H
   obtain ⟨rfl, rfl, rfl, rfl, rfl⟩ := H
   have hnb36 := NB331_318.out
   have hnc36 := NB318_331.out
   have hnb37 := NB331_0.out
   have hnc37 := NB0_331.out
   have hcz38_0 : wc.cell? ⟨gb331, 0, none⟩ = some (.int .i64 (wrap64 (t319 + (wrap64 (Int.tdiv t322 8))))) := (jE BK331.out 0).trans rfl
   have hcz38_1 : wc.cell? ⟨gb331, 1, none⟩ = some (.int .i64 (wrap64 (t325 - (wrap64 (Int.tdiv t328 8))))) := (jE BK331.out 1).trans rfl
   have hcz38_2 : wc.cell? ⟨gb331, 2, none⟩ = some (.int .i64 0) := (jE BK331.out 2).trans rfl
   have hfz38_0 := jF BK331.out 0
   have hfz38_1 := jF BK331.out 1
   have hfz38_2 := jF BK331.out 2
   have hnb39 := NB318_0.out
   have hnc39 := NB0_318.out
   have hcz40_0 : wc.cell? ⟨gb318, 0, none⟩ = some (.int .i64 0) := (jE BK318.out 0).trans rfl
   have hcz40_1 : wc.cell? ⟨gb318, 1, none⟩ = some (.int .i64 0) := (jE BK318.out 1).trans rfl
   have hcz40_2 : wc.cell? ⟨gb318, 2, none⟩ = some (.int .i64 0) := (jE BK318.out 2).trans rfl
   have hfz40_0 := jF BK318.out 0
   have hfz40_1 := jF BK318.out 1
   have hfz40_2 := jF BK318.out 2
   go_wp2
   refine bodyPost_ret (results_cell_row rfl _ _ gb318 58 #[.int .i64 (wrap64 (t319 + (wrap64 (Int.tdiv t322 8)))), .int .i64 (wrap64 (t325 - (wrap64 (Int.tdiv t328 8)))), .int .i64 0] (0, 0) _ rfl (by (with_reducible repeat refine Xg ?_); refine jp (cs := #[.int .i64 (wrap64 (t319 + (wrap64 (Int.tdiv t322 8)))), .int .i64 (wrap64 (t325 - (wrap64 (Int.tdiv t328 8)))), .int .i64 0]) ?_ 2 _ rfl; (with_reducible repeat refine Xg ?_); refine jp (cs := #[.int .i64 (wrap64 (t319 + (wrap64 (Int.tdiv t322 8)))), .int .i64 0, .int .i64 0]) ?_ 1 _ rfl; (with_reducible repeat refine Xg ?_); refine jp (cs := #[.int .i64 0, .int .i64 0, .int .i64 0]) ?_ 0 _ rfl; (with_reducible repeat refine Xg ?_); exact BK318.out) Try.underlying58 rfl (by kernel_rfl)) rfl ?_
   exact ⟨Re, by repeat (first | (with_reducible first | exact HI0.out | apply Xs | apply qG | apply qH | refine qF ?_ NB0_318.out _ | refine qF ?_ NB0_331.out _) | exact HI0.out), by repeat (first | (with_reducible first | exact HB.out | apply Xa | refine jH ?_ (qE HI0.out) | refine jH ?_ GE318.out | refine jH ?_ GE331.out) | exact HB.out), by repeat (first | (with_reducible first | exact HK.out | apply jG | apply Xk | refine jT ?_ GW318.out _ | refine jT ?_ GW331.out _) | exact HK.out)⟩

/-! ### spec_l1Cur_surePuzzle: function 288 -/
def spec_l1Cur_surePuzzle.f (k : Nat) (s0_0 : List Int) (s0_1 : Int) (s0_2 : Int) (a1 : Int) : Option ((List (S58)) × Int × Int) := (spec_l1Cur_hidden.f k s0_0 s0_1 s0_2).bind fun bt343 => ((spec_l1Cur_pick.f s0_0 bt343.2.1 bt343.2.2 (wrap64 (a1 + 1))).bind fun bt348 => ((spec_l1Cur_pick.f s0_0 bt348.2.1 bt348.2.2 10000).bind fun bt351 => ((spec_MakePuzzle.f k bt343.1 bt348.1 bt351.1).bind fun bt354 => (some (bt354.1, bt351.2.1, bt351.2.2)))))
theorem spec_l1Cur_surePuzzle.calls (k : Nat) (g : Nat) (s0_0 : List Int) (s0_1 : Int) (s0_2 : Int) (a1 : Int) (r1 : List (S58)) (r2 : Int) (r3 : Int) (w0 w : World) (hI : IsS102 w0 w g s0_0 s0_1 s0_2) (hB : Below w0.heap.size w0 w) (h : spec_l1Cur_surePuzzle.f k s0_0 s0_1 s0_2 a1 = some (r1, r2, r3)) :
 Calls Try.prog 288 #[.pointer (some ⟨g, 0, none⟩), .int .i64 a1] w fun e w' => ∃ v0_ : Value, e = .returned (.agg #[v0_]) ∧ Kd.R k58 58 w' w.heap.size (fun _ => True) v0_ r1 ∧ IsS102 w0 w' g s0_0 r2 r3 ∧ Below w0.heap.size w0 w' ∧ KeepBut w w' g none := by
 have hu52 := Try.underlying52
 have HI0 := jA hI
 have HK := jA (KeepBut.refl w g none)
 have HL := jA hB.size
 clear hI
 have HW0 := jA hB.size
 have HB := jA hB
 clear hB
 have H := h; unfold spec_l1Cur_surePuzzle.f at H
 clear h
 replace H := jD H
 obtain ⟨⟨t343, t346, t347⟩, A30, H⟩ := H
 have A3 := jA A30
 clear A30
 replace H := jD H
 obtain ⟨⟨t348, t349, t350⟩, A40, H⟩ := H
 have A4 := jA A40
 clear A40
 replace H := jD H
 obtain ⟨⟨t351, t352, t353⟩, A50, H⟩ := H
 have A5 := jA A50
 clear A50
 replace H := jD H
 obtain ⟨⟨t354, t357⟩, A60, H⟩ := H
 have A6 := jA A60
 clear A60
 simp only [Option.some.injEq, Prod.mk.injEq] at H
 obtain ⟨rfl, rfl, rfl⟩ := H
 go_enter Try.func288, Try.ntmps288
 go_wp2_with (first | ((with_reducible refine gate_dst (N := 4) rfl ?_); refine box_event ?hg (N := 4) ?hd (cs := #[.slice none 0 0]) (t := 52) ?hr ?_; (case hd => rfl); (case hg => rfl); (case hr => first | (go_simp; done) | (go_simp; rfl)); intro gb342 hg w7 hbox hb; replace HB := jA (jB (by repeat (first | (with_reducible first | exact HB.out | apply Xa | refine jH ?_ (qE HI0.out)) | exact HB.out)) hb); have BK342 := jA (hbox); have GW342 := jA ((by rw [hg]; exact (je (w := w) (g := g) (row := none) (by repeat (first | (with_reducible first | exact HK.out | apply jG | apply Xk) | exact HK.out))) : w.heap.size ≤ gb342)); have GE342 := jA ((Nat.le_trans HW0.out (by rw [hg]; exact (je (w := w) (g := g) (row := none) (by repeat (first | (with_reducible first | exact HK.out | apply jG | apply Xk) | exact HK.out))) : w.heap.size ≤ gb342) : w0.heap.size ≤ gb342)); replace HK := jA (jS (by repeat (first | (with_reducible first | exact HK.out | apply jG | apply Xk) | exact HK.out)) (jb hb g none) (.inl rfl)); have NB0_342 := jA ((by rw [hg]; exact jZ (qD (show IsS102 w0 _ g s0_0 s0_1 s0_2 from by repeat (first | (with_reducible first | exact HI0.out | apply Xs | apply qG | apply qH) | exact HI0.out))) : g ≠ gb342)); have NB342_0 := jA ((by rw [hg]; exact ja (qD (show IsS102 w0 _ g s0_0 s0_1 s0_2 from by repeat (first | (with_reducible first | exact HI0.out | apply Xs | apply qG | apply qH) | exact HI0.out))) : gb342 ≠ g)); replace HI0 := jA (qA (by repeat (first | (with_reducible first | exact HI0.out | apply Xs | apply qG | apply qH) | exact HI0.out)) hb); clear hb hbox hg) | (refine Gl 9 #[.pointer (some ⟨g, 0, none⟩)] Try.func213 ?_; (with_reducible refine (spec_l1Cur_hidden.calls k g s0_0 s0_1 s0_2 t343 t346 t347 w0 _ ?side1 ?side2 A3.out).mono ?_); (case side1 => repeat (first | (with_reducible first | exact HI0.out | apply Xs | apply qG | apply qH | refine qF ?_ NB0_342.out _) | exact HI0.out)); (case side2 => repeat (first | (with_reducible first | exact HB.out | apply Xa | refine jH ?_ (qE HI0.out) | refine jH ?_ GE342.out) | exact HB.out)); rintro e w8 ⟨v344, rfl, ho0, hi, hb, hk⟩; refine ⟨_, rfl, ?_⟩; replace BK342 := jA (jd hk (g' := gb342) (o := .cells #[.slice none 0 0] 52 (0, 0)) (Bm BK342.out) NB342_0.out (by simp)); have HO345 := jA (jf ho0 (je (w := w) (g := g) (row := none) (by repeat (first | (with_reducible first | exact HK.out | apply jG | apply Xk | refine jT ?_ GW342.out _) | exact HK.out)))); replace HK := jA (jS (by repeat (first | (with_reducible first | exact HK.out | apply jG | apply Xk | refine jT ?_ GW342.out _) | exact HK.out)) hk (.inl rfl)); replace HB := jA (hb); replace HI0 := jA (hi); clear hb hk hi ho0) | (refine Gl 13 #[.pointer (some ⟨g, 0, none⟩), .int .i64 (wrap64 (a1 + 1))] Try.func214 ?_; (with_reducible refine (spec_l1Cur_pick.calls g s0_0 t346 t347 (wrap64 (a1 + 1)) t348 t349 t350 w0 _ ?side1 ?side2 A4.out).mono ?_); (case side1 => repeat (first | (with_reducible first | exact HI0.out | apply Xs | apply qG | apply qH | refine qF ?_ NB0_342.out _) | exact HI0.out)); (case side2 => repeat (first | (with_reducible first | exact HB.out | apply Xa | refine jH ?_ (qE HI0.out) | refine jH ?_ GE342.out) | exact HB.out)); rintro e w9 ⟨rfl, hi, hb, hk⟩; refine ⟨_, rfl, ?_⟩; replace BK342 := jA (jd hk (g' := gb342) (o := .cells #[.slice none 0 0] 52 (0, 0)) (Bm BK342.out) NB342_0.out (by simp)); replace HO345 := jA (jW (jh (qB (show IsS102 w0 _ g s0_0 t346 t347 from by repeat (first | (with_reducible first | exact HI0.out | apply Xs | apply qG | apply qH | refine qF ?_ NB0_342.out _) | exact HI0.out)) (Rm HO345.out) (by decide)) hk (fun _ h => h.2)) (fun _ h => h.1)); replace HK := jA (jS (by repeat (first | (with_reducible first | exact HK.out | apply jG | apply Xk | refine jT ?_ GW342.out _) | exact HK.out)) hk (.inl rfl)); replace HB := jA (hb); replace HI0 := jA (hi); clear hb hk hi) | (refine Gl 15 #[.pointer (some ⟨g, 0, none⟩), .int .i64 10000] Try.func214 ?_; (with_reducible refine (spec_l1Cur_pick.calls g s0_0 t349 t350 10000 t351 t352 t353 w0 _ ?side1 ?side2 A5.out).mono ?_); (case side1 => repeat (first | (with_reducible first | exact HI0.out | apply Xs | apply qG | apply qH | refine qF ?_ NB0_342.out _) | exact HI0.out)); (case side2 => repeat (first | (with_reducible first | exact HB.out | apply Xa | refine jH ?_ (qE HI0.out) | refine jH ?_ GE342.out) | exact HB.out)); rintro e w10 ⟨rfl, hi, hb, hk⟩; refine ⟨_, rfl, ?_⟩; replace BK342 := jA (jd hk (g' := gb342) (o := .cells #[.slice none 0 0] 52 (0, 0)) (Bm BK342.out) NB342_0.out (by simp)); replace HO345 := jA (jW (jh (qB (show IsS102 w0 _ g s0_0 t349 t350 from by repeat (first | (with_reducible first | exact HI0.out | apply Xs | apply qG | apply qH | refine qF ?_ NB0_342.out _) | exact HI0.out)) (Rm HO345.out) (by decide)) hk (fun _ h => h.2)) (fun _ h => h.1)); replace HK := jA (jS (by repeat (first | (with_reducible first | exact HK.out | apply jG | apply Xk | refine jT ?_ GW342.out _) | exact HK.out)) hk (.inl rfl)); replace HB := jA (hb); replace HI0 := jA (hi); clear hb hk hi; obtain ⟨Ao11, co11, eo11⟩ := jq HO345.out; subst eo11) | (refine Gl 16 #[.slice Ao11 t343.length co11, .int .i64 t348, .int .i64 t351] Try.func79 ?_; (with_reducible refine (spec_MakePuzzle.calls k _ _ t343 t348 t351 t354 t357 _ (Cm (Kd.R_reads' HO345.out).2.2) ((Kd.R_reads' HO345.out).2.1) A6.out).mono ?_); rintro e w12 ⟨v355, rfl, ho0, hb⟩; refine ⟨_, rfl, ?_⟩; replace HO345 := jA (Kd.R_below (Rm HO345.out) hb); have HO356 := jA (jf ho0 (je (w := w) (g := g) (row := none) (by repeat (first | (with_reducible first | exact HK.out | apply jG | apply Xk | refine jT ?_ GW342.out _) | exact HK.out)))); replace BK342 := jA (jN (g := gb342) (o := .cells #[.slice none 0 0] 52 (0, 0)) (Bm BK342.out) hb); replace HK := jA (jS (by repeat (first | (with_reducible first | exact HK.out | apply jG | apply Xk | refine jT ?_ GW342.out _) | exact HK.out)) (jb hb g none) (.inl rfl)); replace HB := jA (jB (by repeat (first | (with_reducible first | exact HB.out | apply Xa | refine jH ?_ (qE HI0.out) | refine jH ?_ GE342.out) | exact HB.out)) hb); replace HI0 := jA (qA (by repeat (first | (with_reducible first | exact HI0.out | apply Xs | apply qG | apply qH | refine qF ?_ NB0_342.out _) | exact HI0.out)) hb); clear hb ho0) | ((with_reducible refine gate_dst (N := 5) rfl ?_); refine box_event ?hg (N := 5) ?hd (cs := #[.slice none 0 0]) (t := 52) ?hr ?_; (case hd => rfl); (case hg => rfl); (case hr => first | (go_simp; done) | (go_simp; rfl)); intro gb358 hg w13 hbox hb; replace HO345 := jA (Kd.R_below (Rm HO345.out) hb); replace HO356 := jA (Kd.R_below (Rm HO356.out) hb); replace HB := jA (jB (by repeat (first | (with_reducible first | exact HB.out | apply Xa | refine jH ?_ (qE HI0.out) | refine jH ?_ GE342.out) | exact HB.out)) hb); have BK358 := jA (hbox); have GW358 := jA ((by rw [hg]; exact (je (w := w) (g := g) (row := none) (by repeat (first | (with_reducible first | exact HK.out | apply jG | apply Xk | refine jT ?_ GW342.out _) | exact HK.out))) : w.heap.size ≤ gb358)); have GE358 := jA ((Nat.le_trans HW0.out (by rw [hg]; exact (je (w := w) (g := g) (row := none) (by repeat (first | (with_reducible first | exact HK.out | apply jG | apply Xk | refine jT ?_ GW342.out _) | exact HK.out))) : w.heap.size ≤ gb358) : w0.heap.size ≤ gb358)); replace HK := jA (jS (by repeat (first | (with_reducible first | exact HK.out | apply jG | apply Xk | refine jT ?_ GW342.out _) | exact HK.out)) (jb hb g none) (.inl rfl)); have NB342_358 := jA ((by rw [hg]; exact jZ (blk_lt (g := gb342) (o := .cells #[.slice none 0 0] 52 (0, 0)) (Bm BK342.out)) : gb342 ≠ gb358)); have NB358_342 := jA ((by rw [hg]; exact ja (blk_lt (g := gb342) (o := .cells #[.slice none 0 0] 52 (0, 0)) (Bm BK342.out)) : gb358 ≠ gb342)); replace BK342 := jA (jN (g := gb342) (o := .cells #[.slice none 0 0] 52 (0, 0)) (Bm BK342.out) hb); have NB0_358 := jA ((by rw [hg]; exact jZ (qD (show IsS102 w0 _ g s0_0 t352 t353 from by repeat (first | (with_reducible first | exact HI0.out | apply Xs | apply qG | apply qH | refine qF ?_ NB0_342.out _) | exact HI0.out))) : g ≠ gb358)); have NB358_0 := jA ((by rw [hg]; exact ja (qD (show IsS102 w0 _ g s0_0 t352 t353 from by repeat (first | (with_reducible first | exact HI0.out | apply Xs | apply qG | apply qH | refine qF ?_ NB0_342.out _) | exact HI0.out))) : gb358 ≠ g)); replace HI0 := jA (qA (by repeat (first | (with_reducible first | exact HI0.out | apply Xs | apply qG | apply qH | refine qF ?_ NB0_342.out _) | exact HI0.out)) hb); clear hb hbox hg; obtain ⟨Ao14, co14, eo14⟩ := jq HO356.out; subst eo14; have hnb15 := NB358_342.out; have hnc15 := NB342_358.out; have hnb16 := NB358_0.out; have hnc16 := NB0_358.out; have hcz17_0 : w13.cell? ⟨gb358, 0, none⟩ = some (.slice none 0 0) := (jE BK358.out 0).trans rfl; have hfz17_0 := jF BK358.out 0; have hnb18 := NB342_0.out; have hnc18 := NB0_342.out; have hcz19_0 : w13.cell? ⟨gb342, 0, none⟩ = some (.slice none 0 0) := (jE BK342.out 0).trans rfl; have hfz19_0 := jF BK342.out 0))
 refine bodyPost_ret (results_cell_row rfl _ _ gb342 52 #[.slice Ao14 t354.length co14] (0, 0) _ rfl (by (with_reducible repeat refine Xg ?_); refine jp (cs := #[.slice none 0 0]) ?_ 0 _ rfl; (with_reducible repeat refine Xg ?_); refine jk ?_ NB342_358.out _; (with_reducible repeat refine Xg ?_); exact BK342.out) Try.underlying52 rfl (by kernel_rfl)) rfl ?_
 exact ⟨_, Re, by (with_reducible repeat apply Xq); exact jW (jg (p := ⟨gb342, 0, none⟩) (jg (p := ⟨gb358, 0, none⟩) (jm (jm HO356.out BK358.out (by decide)) BK342.out (by decide)) (fun _ hk => hk.1.2) (.slice Ao14 t354.length co14)) (fun _ hk => hk.2) (.slice Ao14 t354.length co14)) (fun _ hk => trivial), by repeat (first | (with_reducible first | exact HI0.out | apply Xs | apply qG | apply qH | refine qF ?_ NB0_342.out _ | refine qF ?_ NB0_358.out _) | exact HI0.out), by repeat (first | (with_reducible first | exact HB.out | apply Xa | refine jH ?_ (qE HI0.out) | refine jH ?_ GE342.out | refine jH ?_ GE358.out) | exact HB.out), by repeat (first | (with_reducible first | exact HK.out | apply jG | apply Xk | refine jT ?_ GW342.out _ | refine jT ?_ GW358.out _) | exact HK.out)⟩

/-! ### spec_l1Cur_puzzle: function 222 -/
def spec_l1Cur_puzzle.l0 : Nat → List Int → Int → Int → List (S58) → Option ((List (S58)) × Int × Int)
 | 0, _, _, _, _ => none
 | k + 1, x1000, x1001, x1002, x366000 => (spec_l1Cur_pick.f x1000 x1001 x1002 2).bind fun bt377 => (if (x366000.length : Int) < (wrap64 (6 + bt377.1)) then (if x366000.length < 5864062014805 then (spec_l1Cur_puzzle.l0 k x1000 bt377.2.1 bt377.2.2 (x366000 ++ [(⟨2, 0, 1⟩ : S58)])) else (none)) else (some (x366000, bt377.2.1, bt377.2.2)))
def spec_l1Cur_puzzle.f (k : Nat) (s0_0 : List Int) (s0_1 : Int) (s0_2 : Int) : Option ((List (S58)) × Int × Int) := (spec_l1Cur_surePuzzle.f k s0_0 s0_1 s0_2 5).bind fun bt360 => ((spec_l1Cur_pick.f s0_0 bt360.2.1 bt360.2.2 12).bind fun bt366 => (if bt366.1 = 0 then ((spec_l1Cur_clue.f k s0_0 bt366.2.1 bt366.2.2).bind fun bt369 => (if bt360.1.length < 5864062014805 then (some ((bt360.1 ++ [(⟨bt369.1, bt369.2.1, bt369.2.2.1⟩ : S58)]), bt369.2.2.2.1, bt369.2.2.2.2)) else (none))) else (if bt366.1 = 1 then (spec_l1Cur_puzzle.l0 k s0_0 bt366.2.1 bt366.2.2 bt360.1) else (some (bt360.1, bt366.2.1, bt366.2.2)))))
def spec_l1Cur_puzzle.T4 : Bool × List (List Nat × List Nat) := (true, [([], []), ([0], [0]), ([], []), ([2], [2]), ([3], [3]), ([1, 4, 3], [1, 4]), ([0, 1, 2, 3, 4, 5], []), ([6, 5, 5, 0, 1, 2, 3, 4, 5], [5, 6])])
def spec_l1Cur_puzzle.B4 : List Nat := [0, 1, 0, 4, 12, 31, 63, 127]
theorem spec_l1Cur_puzzle.tab4 : rtab .any (opsOf Try.f222 4) = spec_l1Cur_puzzle.T4 := by kernel_rfl
theorem spec_l1Cur_puzzle.bits4 : waitsOk spec_l1Cur_puzzle.T4.2 spec_l1Cur_puzzle.B4 = true := by kernel_rfl
theorem spec_l1Cur_puzzle.calls (k : Nat) (g : Nat) (s0_0 : List Int) (s0_1 : Int) (s0_2 : Int) (r1 : List (S58)) (r2 : Int) (r3 : Int) (w0 w : World) (hI : IsS102 w0 w g s0_0 s0_1 s0_2) (hB : Below w0.heap.size w0 w) (h : spec_l1Cur_puzzle.f k s0_0 s0_1 s0_2 = some (r1, r2, r3)) :
 Calls Try.prog 222 #[.pointer (some ⟨g, 0, none⟩)] w fun e w' => ∃ v0_ : Value, e = .returned (.agg #[v0_]) ∧ Kd.R k58 58 w' w.heap.size (fun _ => True) v0_ r1 ∧ IsS102 w0 w' g s0_0 r2 r3 ∧ Below w0.heap.size w0 w' ∧ KeepBut w w' g none := by
 have hu52 := Try.underlying52
 have hu58 := Try.underlying58
 have HI0 := jA hI
 have HK := jA (KeepBut.refl w g none)
 have HL := jA hB.size
 clear hI
 have HW0 := jA hB.size
 have HB := jA hB
 clear hB
 have H := h; unfold spec_l1Cur_puzzle.f at H
 clear h
 replace H := jD H
 obtain ⟨⟨t360, t363, t364⟩, A20, H⟩ := H
 have A2 := jA A20
 clear A20
 replace H := jD H
 obtain ⟨⟨t366, t367, t368⟩, A30, H⟩ := H
 have A3 := jA A30
 clear A30
 replace H := Ic H; rcases H with ⟨c4, H⟩ | ⟨c4, H⟩
 · have c4b0 : (t366 == 0) = true := beq_iff_eq.mpr c4
   have c4b1 := bne_eq_false_iff_eq.mpr c4
   clear c4
   replace H := jD H
   obtain ⟨⟨t369, t370, t371, t372, t373⟩, A50, H⟩ := H
   have A5 := jA A50
   clear A50
   replace H := Ip H; obtain ⟨c6, H⟩ := H
   have LMc6 := jA c6
   clear c6
   obtain ⟨y374, hy374⟩ : ∃ y_ : List (S58), y_ = (t360 ++ [(⟨t369, t370, t371⟩ : S58)]) := ⟨_, rfl⟩
   replace H : (some (y374, t372, t373)) = some (r1, r2, r3) := by first | (rw [hy374]; with_reducible exact H) | (have H2_ := (Option.bind_some _ _).symm.trans H; rw [hy374]; with_reducible exact H2_) | (have H2_ := (Option.bind_some _ _).symm.trans H; with_reducible exact H2_) | with_reducible exact H | (rw [hy374]; exact H) | exact H
   have Ny374 := jA hy374
   clear hy374
   simp only [Option.some.injEq, Prod.mk.injEq] at H
   obtain ⟨rfl, rfl, rfl⟩ := H
   go_enter Try.func222, Try.ntmps222
   try go_wp2_with (first | ((with_reducible refine gate_dst (N := 2) rfl ?_); refine box_event ?hg (N := 2) ?hd (cs := #[.slice none 0 0]) (t := 52) ?hr ?_; (case hd => rfl); (case hg => rfl); (case hr => first | (go_simp; done) | (go_simp; rfl)); intro gb359 hg w7 hbox hb; replace HB := jA (jB (by repeat (first | (with_reducible first | exact HB.out | apply Xa | refine jH ?_ (qE HI0.out)) | exact HB.out)) hb); have BK359 := jA (hbox); have GW359 := jA ((by rw [hg]; exact (je (w := w) (g := g) (row := none) (by repeat (first | (with_reducible first | exact HK.out | apply jG | apply Xk) | exact HK.out))) : w.heap.size ≤ gb359)); have GE359 := jA ((Nat.le_trans HW0.out (by rw [hg]; exact (je (w := w) (g := g) (row := none) (by repeat (first | (with_reducible first | exact HK.out | apply jG | apply Xk) | exact HK.out))) : w.heap.size ≤ gb359) : w0.heap.size ≤ gb359)); replace HK := jA (jS (by repeat (first | (with_reducible first | exact HK.out | apply jG | apply Xk) | exact HK.out)) (jb hb g none) (.inl rfl)); have NB0_359 := jA ((by rw [hg]; exact jZ (qD (show IsS102 w0 _ g s0_0 s0_1 s0_2 from by repeat (first | (with_reducible first | exact HI0.out | apply Xs | apply qG | apply qH) | exact HI0.out))) : g ≠ gb359)); have NB359_0 := jA ((by rw [hg]; exact ja (qD (show IsS102 w0 _ g s0_0 s0_1 s0_2 from by repeat (first | (with_reducible first | exact HI0.out | apply Xs | apply qG | apply qH) | exact HI0.out))) : gb359 ≠ g)); replace HI0 := jA (qA (by repeat (first | (with_reducible first | exact HI0.out | apply Xs | apply qG | apply qH) | exact HI0.out)) hb); clear hb hbox hg) | (refine Gl 5 #[.pointer (some ⟨g, 0, none⟩), .int .i64 5] Try.func288 ?_; (with_reducible refine (spec_l1Cur_surePuzzle.calls k g s0_0 s0_1 s0_2 5 t360 t363 t364 w0 _ ?side1 ?side2 A2.out).mono ?_); (case side1 => repeat (first | (with_reducible first | exact HI0.out | apply Xs | apply qG | apply qH | refine qF ?_ NB0_359.out _) | exact HI0.out)); (case side2 => repeat (first | (with_reducible first | exact HB.out | apply Xa | refine jH ?_ (qE HI0.out) | refine jH ?_ GE359.out) | exact HB.out)); rintro e w8 ⟨v361, rfl, ho0, hi, hb, hk⟩; refine ⟨_, rfl, ?_⟩; replace BK359 := jA (jd hk (g' := gb359) (o := .cells #[.slice none 0 0] 52 (0, 0)) (Bm BK359.out) NB359_0.out (by simp)); have HO362 := jA (jf ho0 (je (w := w) (g := g) (row := none) (by repeat (first | (with_reducible first | exact HK.out | apply jG | apply Xk | refine jT ?_ GW359.out _) | exact HK.out)))); replace HK := jA (jS (by repeat (first | (with_reducible first | exact HK.out | apply jG | apply Xk | refine jT ?_ GW359.out _) | exact HK.out)) hk (.inl rfl)); replace HB := jA (hb); replace HI0 := jA (hi); clear hb hk hi ho0) | ((with_reducible refine gate_dst (N := 3) rfl ?_); refine box_event ?hg (N := 3) ?hd (cs := #[.slice none 0 0]) (t := 52) ?hr ?_; (case hd => rfl); (case hg => rfl); (case hr => first | (go_simp; done) | (go_simp; rfl)); intro gb365 hg w9 hbox hb; replace HO362 := jA (Kd.R_below (Rm HO362.out) hb); replace HB := jA (jB (by repeat (first | (with_reducible first | exact HB.out | apply Xa | refine jH ?_ (qE HI0.out) | refine jH ?_ GE359.out) | exact HB.out)) hb); have BK365 := jA (hbox); have GW365 := jA ((by rw [hg]; exact (je (w := w) (g := g) (row := none) (by repeat (first | (with_reducible first | exact HK.out | apply jG | apply Xk | refine jT ?_ GW359.out _) | exact HK.out))) : w.heap.size ≤ gb365)); have GE365 := jA ((Nat.le_trans HW0.out (by rw [hg]; exact (je (w := w) (g := g) (row := none) (by repeat (first | (with_reducible first | exact HK.out | apply jG | apply Xk | refine jT ?_ GW359.out _) | exact HK.out))) : w.heap.size ≤ gb365) : w0.heap.size ≤ gb365)); replace HK := jA (jS (by repeat (first | (with_reducible first | exact HK.out | apply jG | apply Xk | refine jT ?_ GW359.out _) | exact HK.out)) (jb hb g none) (.inl rfl)); have NB359_365 := jA ((by rw [hg]; exact jZ (blk_lt (g := gb359) (o := .cells #[.slice none 0 0] 52 (0, 0)) (Bm BK359.out)) : gb359 ≠ gb365)); have NB365_359 := jA ((by rw [hg]; exact ja (blk_lt (g := gb359) (o := .cells #[.slice none 0 0] 52 (0, 0)) (Bm BK359.out)) : gb365 ≠ gb359)); replace BK359 := jA (jN (g := gb359) (o := .cells #[.slice none 0 0] 52 (0, 0)) (Bm BK359.out) hb); have NB0_365 := jA ((by rw [hg]; exact jZ (qD (show IsS102 w0 _ g s0_0 t363 t364 from by repeat (first | (with_reducible first | exact HI0.out | apply Xs | apply qG | apply qH | refine qF ?_ NB0_359.out _) | exact HI0.out))) : g ≠ gb365)); have NB365_0 := jA ((by rw [hg]; exact ja (qD (show IsS102 w0 _ g s0_0 t363 t364 from by repeat (first | (with_reducible first | exact HI0.out | apply Xs | apply qG | apply qH | refine qF ?_ NB0_359.out _) | exact HI0.out))) : gb365 ≠ g)); replace HI0 := jA (qA (by repeat (first | (with_reducible first | exact HI0.out | apply Xs | apply qG | apply qH | refine qF ?_ NB0_359.out _) | exact HI0.out)) hb); clear hb hbox hg; obtain ⟨Ao10, co10, eo10⟩ := jq HO362.out; subst eo10; have hnb11 := NB365_359.out; have hnc11 := NB359_365.out; have hnb12 := NB365_0.out; have hnc12 := NB0_365.out; have hcz13_0 : w9.cell? ⟨gb365, 0, none⟩ = some (.slice none 0 0) := (jE BK365.out 0).trans rfl; have hfz13_0 := jF BK365.out 0) | (refine Gl 7 #[.pointer (some ⟨g, 0, none⟩), .int .i64 12] Try.func214 ?_; (with_reducible refine (spec_l1Cur_pick.calls g s0_0 t363 t364 12 t366 t367 t368 w0 _ ?side1 ?side2 A3.out).mono ?_); (case side1 => repeat (first | (with_reducible first | exact HI0.out | apply Xs | apply qG | apply qH | refine qF ?_ NB0_359.out _ | refine qF ?_ NB0_365.out _) | exact HI0.out)); (case side2 => repeat (first | (with_reducible first | exact HB.out | apply Xa | refine jH ?_ (qE HI0.out) | refine jH ?_ GE359.out | refine jH ?_ GE365.out) | exact HB.out)); rintro e w14 ⟨rfl, hi, hb, hk⟩; refine ⟨_, rfl, ?_⟩; replace BK359 := jA (jd hk (g' := gb359) (o := .cells #[.slice none 0 0] 52 (0, 0)) (by (with_reducible repeat refine Xg ?_); refine jk ?_ NB359_365.out _; (with_reducible repeat refine Xg ?_); exact BK359.out) NB359_0.out (by simp)); replace HO362 := jA (jW (jh (qB (show IsS102 w0 _ g s0_0 t363 t364 from by repeat (first | (with_reducible first | exact HI0.out | apply Xs | apply qG | apply qH | refine qF ?_ NB0_359.out _ | refine qF ?_ NB0_365.out _) | exact HI0.out)) (by (with_reducible repeat apply Xq); exact (jW (jg (p := ⟨gb365, 0, none⟩) (jm HO362.out BK365.out (by decide)) (fun _ hk => hk.2) (.slice Ao10 t360.length co10)) (fun _ h_ => h_.1))) (by decide)) hk (fun _ h => h.2)) (fun _ h => h.1)); replace BK365 := jA (jd hk (g' := gb365) (o := .cells #[.slice Ao10 t360.length co10] 52 (0, 0)) (by (with_reducible repeat refine Xg ?_); refine jp (cs := #[.slice none 0 0]) ?_ 0 _ rfl; (with_reducible repeat refine Xg ?_); exact BK365.out) NB365_0.out (by simp)); replace HK := jA (jS (by repeat (first | (with_reducible first | exact HK.out | apply jG | apply Xk | refine jT ?_ GW359.out _ | refine jT ?_ GW365.out _) | exact HK.out)) hk (.inl rfl)); replace HB := jA (hb); replace HI0 := jA (hi); clear hb hk hi))
   replace HO362 := jA (Kd.R_drew HO362.out); replace BK359 := jA (jR BK359.out); replace BK365 := jA (jR BK365.out); replace HI0 := jA (IsS102.drew HI0.out); replace HK := jA (keep_drew HK.out); replace HB := jA (jQ HB.out)
   refine start_ (n := 8) (S := fun w' => w'.cell? ⟨gb365, 0, none⟩ = some (.slice Ao10 t360.length co10)) (ds := [7]) #[false, false, false, false, false, false, false, false] (by kernel_rfl) rfl rfl ((jE BK365.out 0).trans rfl) (fun hHeld => ?_); refine with_tabW spec_l1Cur_puzzle.tab4 spec_l1Cur_puzzle.bits4 (fun HT_ HW_ => ?_)
   generalize w14.drew = w15 at HO362 BK359 BK365 HI0 HK HB hHeld ⊢
   refine Pu 0 10 #[true, false, false, false, false, false, false, false] HT_.out ?_
   refine Pu 2 12 #[true, false, true, false, false, false, false, false] HT_.out ?_
   refine take_ (i := 1) (N := some 11) (v := ?_) (a' := ?_) #[true, true, true, false, false, false, false, false] rfl rfl (take_ofW HT_.out HW_.out (by kernel_rfl)) (fun _ _ _ h => h) (Or.inl ⟨by rfl, ?_⟩) hHeld ?_ ?_
   rotate_left
   · intro w' s0
     go_simp
     with_reducible rfl
   rotate_left
   · simp only [Act.put, List.setIfInBounds_toArray, List.set_cons_zero, List.set_cons_succ, i64_w, i32_w]
     rfl
   refine one_ (i := 3) (N := some 13) #[true, true, true, true, false, false, false, false] rfl rfl (one_of HT_.out (by kernel_rfl)) (by decide) (fun K hK => ?_)
   refine goes_ Try.func230 (by kernel_rfl) rfl #[.pointer (some ⟨g, 0, none⟩)] (by rfl) rfl rfl Ga ?_
   with_reducible refine (spec_l1Cur_clue.calls k g s0_0 t367 t368 t369 t370 t371 t372 t373 w0 _ ?side1 ?side2 A5.out).mono ?_
   (case side1 => repeat (first | (with_reducible first | exact HI0.out | apply Xs | apply qG | apply qH | refine qF ?_ NB0_359.out _ | refine qF ?_ NB0_365.out _) | exact HI0.out))
   (case side2 => repeat (first | (with_reducible first | exact HB.out | apply Xa | refine jH ?_ (qE HI0.out) | refine jH ?_ GE359.out | refine jH ?_ GE365.out) | exact HB.out))
   rintro e w16 ⟨rfl, hi, hb, hk⟩
   refine ⟨_, rfl, ?_⟩
   replace BK359 := jA (jd hk (g' := gb359) (o := .cells #[.slice none 0 0] 52 (0, 0)) (Bm BK359.out) NB359_0.out (by simp)); replace HO362 := jA (jW (jh (qB (show IsS102 w0 _ g s0_0 t367 t368 from by repeat (first | (with_reducible first | exact HI0.out | apply Xs | apply qG | apply qH | refine qF ?_ NB0_359.out _ | refine qF ?_ NB0_365.out _) | exact HI0.out)) (Rm HO362.out) (by decide)) hk (fun _ h => h.2)) (fun _ h => h.1)); replace BK365 := jA (jd hk (g' := gb365) (o := .cells #[.slice Ao10 t360.length co10] 52 (0, 0)) (Bm BK365.out) NB365_0.out (by simp)); replace HK := jA (jS (by repeat (first | (with_reducible first | exact HK.out | apply jG | apply Xk | refine jT ?_ GW359.out _ | refine jT ?_ GW365.out _) | exact HK.out)) hk (.inl rfl)); replace HB := jA (hb); replace HI0 := jA (hi); (try clear hb); (try clear hb2); (try clear hk); (try clear hi)
   refine hK.out _ _ ((jE BK365.out 0).trans rfl) (fun hHeld => ?_)
   clear hK K
   refine norm_ (a' := ?_) ?_ ?_
   rotate_left
   · show Act.put _ (some 13) _ = _
     simp only [Act.put, List.setIfInBounds_toArray, List.set_cons_zero, List.set_cons_succ, i64_w, i32_w]
     rfl
   refine one_ (i := 4) (N := some 14) #[true, true, true, true, true, false, false, false] rfl rfl (one_of HT_.out (by kernel_rfl)) (by decide) (fun K hK => ?_)
   refine value_ (w1 := ?_) (v := ?_) (by rfl) rfl ?_ ?_
   rotate_left 2
   · go_simp
     constructor
     · rfl
     rfl
   refine hK.out _ _ ((jE (blk_alloc BK365.out _) 0).trans rfl) (fun hHeld => ?_)
   clear hK K
   refine norm_ (a' := ?_) ?_ ?_
   rotate_left
   · show Act.put _ (some 14) _ = _
     simp only [Act.put, List.setIfInBounds_toArray, List.set_cons_zero, List.set_cons_succ, i64_w, i32_w]
     rfl
   refine one_ (i := 5) (N := some 15) #[true, true, true, true, true, true, false, false] rfl rfl (one_of HT_.out (by kernel_rfl)) (by decide) (fun K hK => ?_)
   refine Kd.R_append_step k58 w.heap.size (by rfl) (.tmp 11) (.tmp 14) 50 58 (.agg #[(.int .i64 0), (.int .i64 0), (.int .i64 0)]) 24 rfl Try.underlying50 info58 rfl (by decide) (by omega) (.slice Ao10 t360.length co10) t360 (⟨t369, t370, t371⟩ : S58) [.int .i64 t369, .int .i64 t370, .int .i64 t371] (fun _ => True) (fun _ => False) rfl rfl ?aP (fun _ hk => hk.elim) ?aF ?aO (jU _ _) ?aS ?aL ?_
   (case aP => exact k58_mkM _ _ _ (⟨t369, t370, t371⟩ : S58))
   (case aF => exact (fun _ _ => trivial))
   (case aO => exact (Rm HO362.out))
   (case aS => exact (je (w := w) (g := g) (row := none) (by repeat (first | (with_reducible first | exact HK.out | apply jG | apply Xk | refine jT ?_ GW359.out _ | refine jT ?_ GW365.out _) | exact HK.out))))
   (case aL => have := LMc6.out; omega)
   intro v375 w17 ho hb hg hat
   rw [← Ny374.out] at ho
   have n0_ := jA (IsS102.grown (by repeat (first | (with_reducible first | exact HI0.out | apply Xs | apply qG | apply qH | refine qF ?_ NB0_359.out _ | refine qF ?_ NB0_365.out _) | exact HI0.out)) hg (IsS102.own_ne HI0.out HO362.out (by decide))); have n1_ := jA (js (g := gb359) (o := .cells #[.slice none 0 0] 52 (0, 0)) (Bm BK359.out) hg (Kd.R_ne HO362.out BK359.out (by decide))); have n2_ := jA (js (g := gb365) (o := .cells #[.slice Ao10 t360.length co10] 52 (0, 0)) (Bm BK365.out) hg (Kd.R_ne HO362.out BK365.out (by decide))); have n3_ := jA (below_weaken (by repeat (first | (with_reducible first | exact HB.out | apply Xa | refine jH ?_ (qE HI0.out) | refine jH ?_ GE359.out | refine jH ?_ GE365.out) | exact HB.out)) HL.out hb); have n4_ := jA (jS (by repeat (first | (with_reducible first | exact HK.out | apply jG | apply Xk | refine jT ?_ GW359.out _ | refine jT ?_ GW365.out _) | exact HK.out)) (KeepBut.of_grown hg g) (Kd.R_base2 HO362.out)); have n5_ := jA (ho); clear HI0 BK359 BK365 HB HK HO362; have HI0 := n0_; have BK359 := n1_; have BK365 := n2_; have HB := n3_; have HK := n4_; have HO376 := n5_; clear n0_ n1_ n2_ n3_ n4_ n5_ ho hb hg hat
   obtain ⟨Ao18, co18, eo18⟩ := jq HO376.out
   (first | subst eo18 | (injection eo18 with f1_ f2_ f3_; have f4_ := f1_.symm; have f5_ := f3_.symm; clear f1_ f2_ f3_; subst f4_; subst f5_))
   refine hK.out _ _ ((jE BK365.out 0).trans rfl) (fun hHeld => ?_)
   clear hK K
   refine norm_ (a' := ?_) ?_ ?_
   rotate_left
   · show Act.put _ (some 15) _ = _
     simp only [Act.put, List.setIfInBounds_toArray, List.set_cons_zero, List.set_cons_succ, i64_w, i32_w]
     rfl
   refine Pu 6 16 #[true, true, true, true, true, true, true, false] HT_.out ?_
   refine last_ (i := 7) (N := none) #[true, true, true, true, true, true, true, true] rfl rfl (one_of HT_.out (by kernel_rfl)) (by decide) (fun K hK => ?_)
   have hs19 : w17.cell? ⟨gb365, 0, none⟩ = some (.slice Ao10 t360.length co10) := (jE BK365.out 0).trans rfl
   have hfs19 := jF BK365.out 0
   have hns19_0 := NB359_365.out
   have hms19_0 := NB365_359.out
   refine skip_ (w1 := ?_) (by rfl) rfl ?_ ?_
   rotate_left
   · go_simp
     rfl
   refine hK.out _ _ ?_
   clear hK K
   refine done_ (done_of HT_.out (by kernel_rfl)) ?_
   have hcz20_0 : w17.cell? ⟨gb365, 0, none⟩ = some (.slice Ao10 t360.length co10) := (jE BK365.out 0).trans rfl
   have hfz20_0 := jF BK365.out 0
   have hnb21 := NB359_0.out
   have hnc21 := NB0_359.out
   have hcz22_0 : w17.cell? ⟨gb359, 0, none⟩ = some (.slice none 0 0) := (jE BK359.out 0).trans rfl
   have hfz22_0 := jF BK359.out 0
   try go_wp2
   refine bodyPost_ret (results_cell_row rfl _ _ gb359 52 #[.slice Ao18 y374.length co18] (0, 0) _ rfl (by (with_reducible repeat refine Xg ?_); refine jp (cs := #[.slice none 0 0]) ?_ 0 _ rfl; (with_reducible repeat refine Xg ?_); refine jk ?_ NB359_365.out _; (with_reducible repeat refine Xg ?_); exact BK359.out) Try.underlying52 rfl (by kernel_rfl)) rfl ?_
   exact ⟨_, Re, by (with_reducible repeat apply Xq); exact jW (jg (p := ⟨gb359, 0, none⟩) (jg (p := ⟨gb365, 0, none⟩) (jm (jm HO376.out BK365.out (by decide)) BK359.out (by decide)) (fun _ hk => hk.1.2) (.slice Ao18 y374.length co18)) (fun _ hk => hk.2) (.slice Ao18 y374.length co18)) (fun _ hk => trivial), by repeat (first | (with_reducible first | exact HI0.out | apply Xs | apply qG | apply qH | refine qF ?_ NB0_359.out _ | refine qF ?_ NB0_365.out _) | exact HI0.out), by repeat (first | (with_reducible first | exact HB.out | apply Xa | refine jH ?_ (qE HI0.out) | refine jH ?_ GE359.out | refine jH ?_ GE365.out) | exact HB.out), by repeat (first | (with_reducible first | exact HK.out | apply jG | apply Xk | refine jT ?_ GW359.out _ | refine jT ?_ GW365.out _) | exact HK.out)⟩
 have c4b0 : (t366 == 0) = false := beq_eq_false_iff_ne.mpr c4
 have c4b1 := bne_iff_ne.mpr c4
 replace H := Ic H; rcases H with ⟨c23, H⟩ | ⟨c23, H⟩
 · have c23b0 : (t366 == 1) = true := beq_iff_eq.mpr c23
   have c23b1 := bne_eq_false_iff_eq.mpr c23
   clear c23
   have H' := jA H
   clear H
   go_enter Try.func222, Try.ntmps222
   go_wp2_with (first | ((with_reducible refine gate_dst (N := 2) rfl ?_); refine box_event ?hg (N := 2) ?hd (cs := #[.slice none 0 0]) (t := 52) ?hr ?_; (case hd => rfl); (case hg => rfl); (case hr => first | (go_simp; done) | (go_simp; rfl)); intro gb359 hg w24 hbox hb; replace HB := jA (jB (by repeat (first | (with_reducible first | exact HB.out | apply Xa | refine jH ?_ (qE HI0.out)) | exact HB.out)) hb); have BK359 := jA (hbox); have GW359 := jA ((by rw [hg]; exact (je (w := w) (g := g) (row := none) (by repeat (first | (with_reducible first | exact HK.out | apply jG | apply Xk) | exact HK.out))) : w.heap.size ≤ gb359)); have GE359 := jA ((Nat.le_trans HW0.out (by rw [hg]; exact (je (w := w) (g := g) (row := none) (by repeat (first | (with_reducible first | exact HK.out | apply jG | apply Xk) | exact HK.out))) : w.heap.size ≤ gb359) : w0.heap.size ≤ gb359)); replace HK := jA (jS (by repeat (first | (with_reducible first | exact HK.out | apply jG | apply Xk) | exact HK.out)) (jb hb g none) (.inl rfl)); have NB0_359 := jA ((by rw [hg]; exact jZ (qD (show IsS102 w0 _ g s0_0 s0_1 s0_2 from by repeat (first | (with_reducible first | exact HI0.out | apply Xs | apply qG | apply qH) | exact HI0.out))) : g ≠ gb359)); have NB359_0 := jA ((by rw [hg]; exact ja (qD (show IsS102 w0 _ g s0_0 s0_1 s0_2 from by repeat (first | (with_reducible first | exact HI0.out | apply Xs | apply qG | apply qH) | exact HI0.out))) : gb359 ≠ g)); replace HI0 := jA (qA (by repeat (first | (with_reducible first | exact HI0.out | apply Xs | apply qG | apply qH) | exact HI0.out)) hb); clear hb hbox hg) | (refine Gl 5 #[.pointer (some ⟨g, 0, none⟩), .int .i64 5] Try.func288 ?_; (with_reducible refine (spec_l1Cur_surePuzzle.calls k g s0_0 s0_1 s0_2 5 t360 t363 t364 w0 _ ?side1 ?side2 A2.out).mono ?_); (case side1 => repeat (first | (with_reducible first | exact HI0.out | apply Xs | apply qG | apply qH | refine qF ?_ NB0_359.out _) | exact HI0.out)); (case side2 => repeat (first | (with_reducible first | exact HB.out | apply Xa | refine jH ?_ (qE HI0.out) | refine jH ?_ GE359.out) | exact HB.out)); rintro e w25 ⟨v361, rfl, ho0, hi, hb, hk⟩; refine ⟨_, rfl, ?_⟩; replace BK359 := jA (jd hk (g' := gb359) (o := .cells #[.slice none 0 0] 52 (0, 0)) (Bm BK359.out) NB359_0.out (by simp)); have HO362 := jA (jf ho0 (je (w := w) (g := g) (row := none) (by repeat (first | (with_reducible first | exact HK.out | apply jG | apply Xk | refine jT ?_ GW359.out _) | exact HK.out)))); replace HK := jA (jS (by repeat (first | (with_reducible first | exact HK.out | apply jG | apply Xk | refine jT ?_ GW359.out _) | exact HK.out)) hk (.inl rfl)); replace HB := jA (hb); replace HI0 := jA (hi); clear hb hk hi ho0) | ((with_reducible refine gate_dst (N := 3) rfl ?_); refine box_event ?hg (N := 3) ?hd (cs := #[.slice none 0 0]) (t := 52) ?hr ?_; (case hd => rfl); (case hg => rfl); (case hr => first | (go_simp; done) | (go_simp; rfl)); intro gb365 hg w26 hbox hb; replace HO362 := jA (Kd.R_below (Rm HO362.out) hb); replace HB := jA (jB (by repeat (first | (with_reducible first | exact HB.out | apply Xa | refine jH ?_ (qE HI0.out) | refine jH ?_ GE359.out) | exact HB.out)) hb); have BK365 := jA (hbox); have GW365 := jA ((by rw [hg]; exact (je (w := w) (g := g) (row := none) (by repeat (first | (with_reducible first | exact HK.out | apply jG | apply Xk | refine jT ?_ GW359.out _) | exact HK.out))) : w.heap.size ≤ gb365)); have GE365 := jA ((Nat.le_trans HW0.out (by rw [hg]; exact (je (w := w) (g := g) (row := none) (by repeat (first | (with_reducible first | exact HK.out | apply jG | apply Xk | refine jT ?_ GW359.out _) | exact HK.out))) : w.heap.size ≤ gb365) : w0.heap.size ≤ gb365)); replace HK := jA (jS (by repeat (first | (with_reducible first | exact HK.out | apply jG | apply Xk | refine jT ?_ GW359.out _) | exact HK.out)) (jb hb g none) (.inl rfl)); have NB359_365 := jA ((by rw [hg]; exact jZ (blk_lt (g := gb359) (o := .cells #[.slice none 0 0] 52 (0, 0)) (Bm BK359.out)) : gb359 ≠ gb365)); have NB365_359 := jA ((by rw [hg]; exact ja (blk_lt (g := gb359) (o := .cells #[.slice none 0 0] 52 (0, 0)) (Bm BK359.out)) : gb365 ≠ gb359)); replace BK359 := jA (jN (g := gb359) (o := .cells #[.slice none 0 0] 52 (0, 0)) (Bm BK359.out) hb); have NB0_365 := jA ((by rw [hg]; exact jZ (qD (show IsS102 w0 _ g s0_0 t363 t364 from by repeat (first | (with_reducible first | exact HI0.out | apply Xs | apply qG | apply qH | refine qF ?_ NB0_359.out _) | exact HI0.out))) : g ≠ gb365)); have NB365_0 := jA ((by rw [hg]; exact ja (qD (show IsS102 w0 _ g s0_0 t363 t364 from by repeat (first | (with_reducible first | exact HI0.out | apply Xs | apply qG | apply qH | refine qF ?_ NB0_359.out _) | exact HI0.out))) : gb365 ≠ g)); replace HI0 := jA (qA (by repeat (first | (with_reducible first | exact HI0.out | apply Xs | apply qG | apply qH | refine qF ?_ NB0_359.out _) | exact HI0.out)) hb); clear hb hbox hg; obtain ⟨Ao27, co27, eo27⟩ := jq HO362.out; subst eo27; have hnb28 := NB365_359.out; have hnc28 := NB359_365.out; have hnb29 := NB365_0.out; have hnc29 := NB0_365.out; have hcz30_0 : w26.cell? ⟨gb365, 0, none⟩ = some (.slice none 0 0) := (jE BK365.out 0).trans rfl; have hfz30_0 := jF BK365.out 0) | (refine Gl 7 #[.pointer (some ⟨g, 0, none⟩), .int .i64 12] Try.func214 ?_; (with_reducible refine (spec_l1Cur_pick.calls g s0_0 t363 t364 12 t366 t367 t368 w0 _ ?side1 ?side2 A3.out).mono ?_); (case side1 => repeat (first | (with_reducible first | exact HI0.out | apply Xs | apply qG | apply qH | refine qF ?_ NB0_359.out _ | refine qF ?_ NB0_365.out _) | exact HI0.out)); (case side2 => repeat (first | (with_reducible first | exact HB.out | apply Xa | refine jH ?_ (qE HI0.out) | refine jH ?_ GE359.out | refine jH ?_ GE365.out) | exact HB.out)); rintro e w31 ⟨rfl, hi, hb, hk⟩; refine ⟨_, rfl, ?_⟩; replace BK359 := jA (jd hk (g' := gb359) (o := .cells #[.slice none 0 0] 52 (0, 0)) (by (with_reducible repeat refine Xg ?_); refine jk ?_ NB359_365.out _; (with_reducible repeat refine Xg ?_); exact BK359.out) NB359_0.out (by simp)); replace HO362 := jA (jW (jh (qB (show IsS102 w0 _ g s0_0 t363 t364 from by repeat (first | (with_reducible first | exact HI0.out | apply Xs | apply qG | apply qH | refine qF ?_ NB0_359.out _ | refine qF ?_ NB0_365.out _) | exact HI0.out)) (by (with_reducible repeat apply Xq); exact (jW (jg (p := ⟨gb365, 0, none⟩) (jm HO362.out BK365.out (by decide)) (fun _ hk => hk.2) (.slice Ao27 t360.length co27)) (fun _ h_ => h_.1))) (by decide)) hk (fun _ h => h.2)) (fun _ h => h.1)); replace BK365 := jA (jd hk (g' := gb365) (o := .cells #[.slice Ao27 t360.length co27] 52 (0, 0)) (by (with_reducible repeat refine Xg ?_); refine jp (cs := #[.slice none 0 0]) ?_ 0 _ rfl; (with_reducible repeat refine Xg ?_); exact BK365.out) NB365_0.out (by simp)); replace HK := jA (jS (by repeat (first | (with_reducible first | exact HK.out | apply jG | apply Xk | refine jT ?_ GW359.out _ | refine jT ?_ GW365.out _) | exact HK.out)) hk (.inl rfl)); replace HB := jA (hb); replace HI0 := jA (hi); clear hb hk hi))
   go_loopg [] k (fun kq w' => ∃ (x1001_1 : Int) (x1002_1 : Int) (x366000_1 : List (S58)) (u366000 : Value), Aside0 (spec_l1Cur_puzzle.l0 kq s0_0 x1001_1 x1002_1 x366000_1 = some (r1, r2, r3)) ∧ Aside0 (kq ≤ k) ∧ Aside0 (Kd.R k58 58 w' w.heap.size (fun _ => True) u366000 x366000_1) ∧ Aside0 (w'.heap[gb359]? = some (.cells #[(.slice none 0 0)] 52 (0, 0))) ∧ Aside0 (w'.heap[gb365]? = some (.cells #[u366000] 52 (0, 0))) ∧ Aside0 (IsS102 w0 w' g s0_0 x1001_1 x1002_1) ∧ Aside0 (KeepBut w w' g none) ∧ Aside0 (Below w0.heap.size w0 w'))
   case atStart => exact ⟨(t367), (t368), (t360), (.slice Ao27 t360.length co27), H', ⟨jX _⟩, ⟨Rm HO362.out⟩, ⟨Bm BK359.out⟩, ⟨Bm BK365.out⟩, ⟨by repeat (first | (with_reducible first | exact HI0.out | apply Xs | apply qG | apply qH | refine qF ?_ NB0_359.out _ | refine qF ?_ NB0_365.out _) | exact HI0.out)⟩, ⟨by repeat (first | (with_reducible first | exact HK.out | apply jG | apply Xk | refine jT ?_ GW359.out _ | refine jT ?_ GW365.out _) | exact HK.out)⟩, ⟨by repeat (first | (with_reducible first | exact HB.out | apply Xa | refine jH ?_ (qE HI0.out) | refine jH ?_ GE359.out | refine jH ?_ GE365.out) | exact HB.out)⟩⟩
   case round =>
    clear H'
    try clear c4
    try clear c4b0
    try clear c4b1
    try clear c6
    try clear c23
    try clear c23b0
    try clear c23b1
    try clear hcz13_0
    try clear hcz20_0
    try clear hcz22_0
    try clear hcz30_0
    try clear hfz13_0
    try clear hfz20_0
    try clear hfz22_0
    try clear hfz30_0
    obtain ⟨x1001_1, x1002_1, x366000_1, u366000, HA, HK1, HO_366000, BK359, BK365, HI0, HK, HB⟩ := hrel
    cases gk with
    | zero => exact absurd HA.out (by simp [spec_l1Cur_puzzle.l0])
    | succ k1 =>
     have H := HA.out
     clear HA
     simp only [spec_l1Cur_puzzle.l0] at H
     replace H := jD H
     obtain ⟨⟨t377, t378, t379⟩, A320, H⟩ := H
     have A32 := jA A320
     clear A320
     replace H := Ic H; rcases H with ⟨c33, H⟩ | ⟨c33, H⟩
     · have c33b0 := jK c33
       clear c33
       replace H := Ip H; obtain ⟨c34, H⟩ := H
       have LMc34 := jA c34
       clear c34
       obtain ⟨y380, hy380⟩ : ∃ y_ : List (S58), y_ = (x366000_1 ++ [(⟨2, 0, 1⟩ : S58)]) := ⟨_, rfl⟩
       replace H : (spec_l1Cur_puzzle.l0 k1 s0_0 t378 t379 y380) = some (r1, r2, r3) := by first | (rw [hy380]; with_reducible exact H) | (have H2_ := (Option.bind_some _ _).symm.trans H; rw [hy380]; with_reducible exact H2_) | (have H2_ := (Option.bind_some _ _).symm.trans H; with_reducible exact H2_) | with_reducible exact H | (rw [hy380]; exact H) | exact H
       have Ny380 := jA hy380
       clear hy380
       have H' := jA H
       clear H
       try go_wp2
       replace HO_366000 := jA (Kd.R_drew HO_366000.out); replace BK359 := jA (jR BK359.out); replace BK365 := jA (jR BK365.out); replace HI0 := jA (IsS102.drew HI0.out); replace HK := jA (keep_drew HK.out); replace HB := jA (jQ HB.out)
       obtain ⟨Ao36, co36, eo36⟩ := jq HO_366000.out
       (first | subst eo36 | (injection eo36 with f1_ f2_ f3_; have f4_ := f1_.symm; have f5_ := f3_.symm; clear f1_ f2_ f3_; subst f4_; subst f5_))
       refine start_ (n := 7) (S := fun w' => w'.cell? ⟨gb365, 0, none⟩ = some (.slice Ao36 x366000_1.length co36)) (ds := []) #[false, false, false, false, false, false, false] (by kernel_rfl) rfl rfl ((jE BK365.out 0).trans rfl) (fun hHeld => ?_)
       generalize wr.drew = w35 at HO_366000 BK359 BK365 HI0 HK HB hHeld ⊢
       refine pure_ (i := 0) (N := some 19) (v := ?_) (a' := ?_) #[true, false, false, false, false, false, false] rfl rfl (by kernel_rfl) (fun _ _ _ h => h) (Or.inl ⟨by rfl, ?_⟩) ?_ ?_
       rotate_left
       · intro w'
         go_simp
         with_reducible rfl
       rotate_left
       · simp only [Act.put, List.setIfInBounds_toArray, List.set_cons_zero, List.set_cons_succ, i64_w, i32_w]
         rfl
       refine pure_ (i := 3) (N := some 22) (v := ?_) (a' := ?_) #[true, false, false, true, false, false, false] rfl rfl (by kernel_rfl) (fun _ _ _ h => h) (Or.inl ⟨by rfl, ?_⟩) ?_ ?_
       rotate_left
       · intro w'
         go_simp
         with_reducible rfl
       rotate_left
       · simp only [Act.put, List.setIfInBounds_toArray, List.set_cons_zero, List.set_cons_succ, i64_w, i32_w]
         rfl
       refine take_ (i := 1) (N := some 20) (v := ?_) (a' := ?_) #[true, true, false, true, false, false, false] rfl rfl (by kernel_rfl) (fun _ _ _ h => h) (Or.inl ⟨by rfl, ?_⟩) hHeld ?_ ?_
       rotate_left
       · intro w' s0
         go_simp
         with_reducible rfl
       rotate_left
       · simp only [Act.put, List.setIfInBounds_toArray, List.set_cons_zero, List.set_cons_succ, i64_w, i32_w]
         rfl
       refine pure_ (i := 2) (N := some 21) (v := ?_) (a' := ?_) #[true, true, true, true, false, false, false] rfl rfl (by kernel_rfl) (fun _ _ _ h => h) (Or.inl ⟨by rfl, ?_⟩) ?_ ?_
       rotate_left
       · intro w'
         go_simp
         with_reducible rfl
       rotate_left
       · simp only [Act.put, List.setIfInBounds_toArray, List.set_cons_zero, List.set_cons_succ, i64_w, i32_w]
         rfl
       refine one_ (i := 4) (N := some 23) #[true, true, true, true, true, false, false] rfl rfl (by kernel_rfl) (by decide) (fun K hK => ?_)
       refine goes_ Try.func214 (by kernel_rfl) rfl #[.pointer (some ⟨g, 0, none⟩), .int .i64 2] (by rfl) rfl rfl Ga ?_
       with_reducible refine (spec_l1Cur_pick.calls g s0_0 x1001_1 x1002_1 2 t377 t378 t379 w0 _ ?side1 ?side2 A32.out).mono ?_
       (case side1 => repeat (first | (with_reducible first | exact HI0.out | apply Xs | apply qG | apply qH | refine qF ?_ NB0_359.out _ | refine qF ?_ NB0_365.out _) | exact HI0.out))
       (case side2 => repeat (first | (with_reducible first | exact HB.out | apply Xa | refine jH ?_ (qE HI0.out) | refine jH ?_ GE359.out | refine jH ?_ GE365.out) | exact HB.out))
       rintro e w37 ⟨rfl, hi, hb, hk⟩
       refine ⟨_, rfl, ?_⟩
       replace HO_366000 := jA (jW (jh (qB (show IsS102 w0 _ g s0_0 x1001_1 x1002_1 from by repeat (first | (with_reducible first | exact HI0.out | apply Xs | apply qG | apply qH | refine qF ?_ NB0_359.out _ | refine qF ?_ NB0_365.out _) | exact HI0.out)) (Rm HO_366000.out) (by decide)) hk (fun _ h => h.2)) (fun _ h => h.1)); replace BK359 := jA (jd hk (g' := gb359) (o := .cells #[.slice none 0 0] 52 (0, 0)) (Bm BK359.out) NB359_0.out (by simp)); replace BK365 := jA (jd hk (g' := gb365) (o := .cells #[.slice Ao36 x366000_1.length co36] 52 (0, 0)) (Bm BK365.out) NB365_0.out (by simp)); replace HK := jA (jS (by repeat (first | (with_reducible first | exact HK.out | apply jG | apply Xk | refine jT ?_ GW359.out _ | refine jT ?_ GW365.out _) | exact HK.out)) hk (.inl rfl)); replace HB := jA (hb); replace HI0 := jA (hi); (try clear hb); (try clear hb2); (try clear hk); (try clear hi)
       refine hK.out _ _ ((jE BK365.out 0).trans rfl) (fun hHeld => ?_)
       clear hK K
       refine norm_ (a' := ?_) ?_ ?_
       rotate_left
       · show Act.put _ (some 23) _ = _
         simp only [Act.put, List.setIfInBounds_toArray, List.set_cons_zero, List.set_cons_succ, i64_w, i32_w]
         rfl
       refine pure_ (i := 5) (N := some 24) (v := ?_) (a' := ?_) #[true, true, true, true, true, true, false] rfl rfl (by kernel_rfl) (fun _ _ _ h => h) (Or.inl ⟨by rfl, ?_⟩) ?_ ?_
       rotate_left
       · intro w'
         go_simp
         with_reducible rfl
       rotate_left
       · simp only [Act.put, List.setIfInBounds_toArray, List.set_cons_zero, List.set_cons_succ, i64_w, i32_w]
         rfl
       refine pure_ (i := 6) (N := some 25) (v := ?_) (a' := ?_) #[true, true, true, true, true, true, true] rfl rfl (by kernel_rfl) (fun _ _ _ h => h) (Or.inl ⟨by rfl, ?_⟩) ?_ ?_
       rotate_left
       · intro w'
         go_simp
         with_reducible rfl
       rotate_left
       · simp only [Act.put, List.setIfInBounds_toArray, List.set_cons_zero, List.set_cons_succ, i64_w, i32_w]
         rfl
       refine done_ (by kernel_rfl) ?_
       have hnb38 := NB365_359.out
       have hnc38 := NB359_365.out
       have hnb39 := NB365_0.out
       have hnc39 := NB0_365.out
       have hcz40_0 : w37.cell? ⟨gb365, 0, none⟩ = some (.slice Ao36 x366000_1.length co36) := (jE BK365.out 0).trans rfl
       have hfz40_0 := jF BK365.out 0
       try go_wp2_with (first | ((with_reducible refine gate_builtin (b := .append) (xs := #[.tmp 27, .tmp 29]) rfl ?_); at_builtin; refine Kd.R_append k58 w.heap.size rfl (.tmp 27) (.tmp 29) 50 58 (.agg #[(.int .i64 0), (.int .i64 0), (.int .i64 0)]) 24 rfl Try.underlying50 info58 rfl (by decide) (by omega) (.slice Ao36 x366000_1.length co36) x366000_1 (⟨2, 0, 1⟩ : S58) [.int .i64 2, .int .i64 0, .int .i64 1] (fun _ => True) (fun _ => False) rfl rfl ?aP (fun _ hk => hk.elim) ?aF ?aO (jU _ _) ?aS ?aL ?_; (case aP => exact k58_mkM _ _ _ (⟨2, 0, 1⟩ : S58)); (case aF => exact (fun _ _ => trivial)); (case aO => exact (Rm HO_366000.out)); (case aS => exact (je (w := w) (g := g) (row := none) (by repeat (first | (with_reducible first | exact HK.out | apply jG | apply Xk | refine jT ?_ GW359.out _ | refine jT ?_ GW365.out _) | exact HK.out)))); (case aL => have := LMc34.out; omega); intro v381 w41 ho hb hg hat; rw [← Ny380.out] at ho; replace BK359 := jA (js (g := gb359) (o := .cells #[.slice none 0 0] 52 (0, 0)) (Bm BK359.out) hg (Kd.R_ne HO_366000.out BK359.out (by decide))); replace BK365 := jA (js (g := gb365) (o := .cells #[.slice Ao36 x366000_1.length co36] 52 (0, 0)) (Bm BK365.out) hg (Kd.R_ne HO_366000.out BK365.out (by decide))); replace HB := jA (below_weaken (by repeat (first | (with_reducible first | exact HB.out | apply Xa | refine jH ?_ (qE HI0.out) | refine jH ?_ GE359.out | refine jH ?_ GE365.out) | exact HB.out)) HL.out hb); replace HI0 := jA (IsS102.grown (by repeat (first | (with_reducible first | exact HI0.out | apply Xs | apply qG | apply qH | refine qF ?_ NB0_359.out _ | refine qF ?_ NB0_365.out _) | exact HI0.out)) hg (IsS102.own_ne HI0.out HO_366000.out (by decide))); replace HK := jA (jS (by repeat (first | (with_reducible first | exact HK.out | apply jG | apply Xk | refine jT ?_ GW359.out _ | refine jT ?_ GW365.out _) | exact HK.out)) (KeepBut.of_grown hg g) (Kd.R_base2 HO_366000.out)); have HO382 := jA (ho); clear HO_366000; clear ho hb hg hat; obtain ⟨Ao42, co42, eo42⟩ := jq HO382.out; subst eo42; have hcz43_0 : w41.cell? ⟨gb365, 0, none⟩ = some (.slice Ao36 x366000_1.length co36) := (jE BK365.out 0).trans rfl; have hfz43_0 := jF BK365.out 0))
       go_roundg k1
       case measure => have := HK1.out; omega
       case rel => exact ⟨(t378), (t379), (y380), (.slice Ao42 y380.length co42), H', ⟨by have := HK1.out; omega⟩, ⟨by (with_reducible repeat apply Xq); exact jW (jg (p := ⟨gb365, 0, none⟩) (jm HO382.out BK365.out (by decide)) (fun _ hk => hk.2) (.slice Ao42 y380.length co42)) (fun _ hk => trivial)⟩, ⟨by (with_reducible repeat refine Xg ?_); refine jk ?_ NB359_365.out _; (with_reducible repeat refine Xg ?_); exact BK359.out⟩, ⟨by (with_reducible repeat refine Xg ?_); refine jp (cs := #[.slice Ao36 x366000_1.length co36]) ?_ 0 _ rfl; (with_reducible repeat refine Xg ?_); exact BK365.out⟩, ⟨by repeat (first | (with_reducible first | exact HI0.out | apply Xs | apply qG | apply qH | refine qF ?_ NB0_359.out _ | refine qF ?_ NB0_365.out _) | exact HI0.out)⟩, ⟨by repeat (first | (with_reducible first | exact HK.out | apply jG | apply Xk | refine jT ?_ GW359.out _ | refine jT ?_ GW365.out _) | exact HK.out)⟩, ⟨by repeat (first | (with_reducible first | exact HB.out | apply Xa | refine jH ?_ (qE HI0.out) | refine jH ?_ GE359.out | refine jH ?_ GE365.out) | exact HB.out)⟩⟩
     have c33b0 := jV c33
     clear c33
     simp only [Option.some.injEq, Prod.mk.injEq] at H
     obtain ⟨rfl, rfl, rfl⟩ := H
     try go_wp2
     replace HO_366000 := jA (Kd.R_drew HO_366000.out); replace BK359 := jA (jR BK359.out); replace BK365 := jA (jR BK365.out); replace HI0 := jA (IsS102.drew HI0.out); replace HK := jA (keep_drew HK.out); replace HB := jA (jQ HB.out)
     obtain ⟨Ao45, co45, eo45⟩ := jq HO_366000.out
     (first | subst eo45 | (injection eo45 with f1_ f2_ f3_; have f4_ := f1_.symm; have f5_ := f3_.symm; clear f1_ f2_ f3_; subst f4_; subst f5_))
     refine start_ (n := 7) (S := fun w' => w'.cell? ⟨gb365, 0, none⟩ = some (.slice Ao45 x366000_1.length co45)) (ds := []) #[false, false, false, false, false, false, false] (by kernel_rfl) rfl rfl ((jE BK365.out 0).trans rfl) (fun hHeld => ?_)
     generalize wr.drew = w44 at HO_366000 BK359 BK365 HI0 HK HB hHeld ⊢
     refine pure_ (i := 0) (N := some 19) (v := ?_) (a' := ?_) #[true, false, false, false, false, false, false] rfl rfl (by kernel_rfl) (fun _ _ _ h => h) (Or.inl ⟨by rfl, ?_⟩) ?_ ?_
     rotate_left
     · intro w'
       go_simp
       with_reducible rfl
     rotate_left
     · simp only [Act.put, List.setIfInBounds_toArray, List.set_cons_zero, List.set_cons_succ, i64_w, i32_w]
       rfl
     refine pure_ (i := 3) (N := some 22) (v := ?_) (a' := ?_) #[true, false, false, true, false, false, false] rfl rfl (by kernel_rfl) (fun _ _ _ h => h) (Or.inl ⟨by rfl, ?_⟩) ?_ ?_
     rotate_left
     · intro w'
       go_simp
       with_reducible rfl
     rotate_left
     · simp only [Act.put, List.setIfInBounds_toArray, List.set_cons_zero, List.set_cons_succ, i64_w, i32_w]
       rfl
     refine take_ (i := 1) (N := some 20) (v := ?_) (a' := ?_) #[true, true, false, true, false, false, false] rfl rfl (by kernel_rfl) (fun _ _ _ h => h) (Or.inl ⟨by rfl, ?_⟩) hHeld ?_ ?_
     rotate_left
     · intro w' s0
       go_simp
       with_reducible rfl
     rotate_left
     · simp only [Act.put, List.setIfInBounds_toArray, List.set_cons_zero, List.set_cons_succ, i64_w, i32_w]
       rfl
     refine pure_ (i := 2) (N := some 21) (v := ?_) (a' := ?_) #[true, true, true, true, false, false, false] rfl rfl (by kernel_rfl) (fun _ _ _ h => h) (Or.inl ⟨by rfl, ?_⟩) ?_ ?_
     rotate_left
     · intro w'
       go_simp
       with_reducible rfl
     rotate_left
     · simp only [Act.put, List.setIfInBounds_toArray, List.set_cons_zero, List.set_cons_succ, i64_w, i32_w]
       rfl
     refine one_ (i := 4) (N := some 23) #[true, true, true, true, true, false, false] rfl rfl (by kernel_rfl) (by decide) (fun K hK => ?_)
     refine goes_ Try.func214 (by kernel_rfl) rfl #[.pointer (some ⟨g, 0, none⟩), .int .i64 2] (by rfl) rfl rfl Ga ?_
     with_reducible refine (spec_l1Cur_pick.calls g s0_0 x1001_1 x1002_1 2 t377 t378 t379 w0 _ ?side1 ?side2 A32.out).mono ?_
     (case side1 => repeat (first | (with_reducible first | exact HI0.out | apply Xs | apply qG | apply qH | refine qF ?_ NB0_359.out _ | refine qF ?_ NB0_365.out _) | exact HI0.out))
     (case side2 => repeat (first | (with_reducible first | exact HB.out | apply Xa | refine jH ?_ (qE HI0.out) | refine jH ?_ GE359.out | refine jH ?_ GE365.out) | exact HB.out))
     rintro e w46 ⟨rfl, hi, hb, hk⟩
     refine ⟨_, rfl, ?_⟩
     replace HO_366000 := jA (jW (jh (qB (show IsS102 w0 _ g s0_0 x1001_1 x1002_1 from by repeat (first | (with_reducible first | exact HI0.out | apply Xs | apply qG | apply qH | refine qF ?_ NB0_359.out _ | refine qF ?_ NB0_365.out _) | exact HI0.out)) (Rm HO_366000.out) (by decide)) hk (fun _ h => h.2)) (fun _ h => h.1)); replace BK359 := jA (jd hk (g' := gb359) (o := .cells #[.slice none 0 0] 52 (0, 0)) (Bm BK359.out) NB359_0.out (by simp)); replace BK365 := jA (jd hk (g' := gb365) (o := .cells #[.slice Ao45 x366000_1.length co45] 52 (0, 0)) (Bm BK365.out) NB365_0.out (by simp)); replace HK := jA (jS (by repeat (first | (with_reducible first | exact HK.out | apply jG | apply Xk | refine jT ?_ GW359.out _ | refine jT ?_ GW365.out _) | exact HK.out)) hk (.inl rfl)); replace HB := jA (hb); replace HI0 := jA (hi); (try clear hb); (try clear hb2); (try clear hk); (try clear hi)
     refine hK.out _ _ ((jE BK365.out 0).trans rfl) (fun hHeld => ?_)
     clear hK K
     refine norm_ (a' := ?_) ?_ ?_
     rotate_left
     · show Act.put _ (some 23) _ = _
       simp only [Act.put, List.setIfInBounds_toArray, List.set_cons_zero, List.set_cons_succ, i64_w, i32_w]
       rfl
     refine pure_ (i := 5) (N := some 24) (v := ?_) (a' := ?_) #[true, true, true, true, true, true, false] rfl rfl (by kernel_rfl) (fun _ _ _ h => h) (Or.inl ⟨by rfl, ?_⟩) ?_ ?_
     rotate_left
     · intro w'
       go_simp
       with_reducible rfl
     rotate_left
     · simp only [Act.put, List.setIfInBounds_toArray, List.set_cons_zero, List.set_cons_succ, i64_w, i32_w]
       rfl
     refine pure_ (i := 6) (N := some 25) (v := ?_) (a' := ?_) #[true, true, true, true, true, true, true] rfl rfl (by kernel_rfl) (fun _ _ _ h => h) (Or.inl ⟨by rfl, ?_⟩) ?_ ?_
     rotate_left
     · intro w'
       go_simp
       with_reducible rfl
     rotate_left
     · simp only [Act.put, List.setIfInBounds_toArray, List.set_cons_zero, List.set_cons_succ, i64_w, i32_w]
       rfl
     refine done_ (by kernel_rfl) ?_
     have hnb47 := NB365_359.out
     have hnc47 := NB359_365.out
     have hnb48 := NB365_0.out
     have hnc48 := NB0_365.out
     have hcz49_0 : w46.cell? ⟨gb365, 0, none⟩ = some (.slice Ao45 x366000_1.length co45) := (jE BK365.out 0).trans rfl
     have hfz49_0 := jF BK365.out 0
     have hnb50 := NB359_0.out
     have hnc50 := NB0_359.out
     have hcz51_0 : w46.cell? ⟨gb359, 0, none⟩ = some (.slice none 0 0) := (jE BK359.out 0).trans rfl
     have hfz51_0 := jF BK359.out 0
     try go_wp2
     refine bodyPost_ret (results_cell_row rfl _ _ gb359 52 #[.slice Ao45 x366000_1.length co45] (0, 0) _ rfl (by (with_reducible repeat refine Xg ?_); refine jp (cs := #[.slice none 0 0]) ?_ 0 _ rfl; (with_reducible repeat refine Xg ?_); exact BK359.out) Try.underlying52 rfl (by kernel_rfl)) rfl ?_
     exact ⟨_, Re, by (with_reducible repeat apply Xq); exact jW (jg (p := ⟨gb359, 0, none⟩) (jm HO_366000.out BK359.out (by decide)) (fun _ hk => hk.2) (.slice Ao45 x366000_1.length co45)) (fun _ hk => trivial), by repeat (first | (with_reducible first | exact HI0.out | apply Xs | apply qG | apply qH | refine qF ?_ NB0_359.out _ | refine qF ?_ NB0_365.out _) | exact HI0.out), by repeat (first | (with_reducible first | exact HB.out | apply Xa | refine jH ?_ (qE HI0.out) | refine jH ?_ GE359.out | refine jH ?_ GE365.out) | exact HB.out), by repeat (first | (with_reducible first | exact HK.out | apply jG | apply Xk | refine jT ?_ GW359.out _ | refine jT ?_ GW365.out _) | exact HK.out)⟩
 have c23b0 : (t366 == 1) = false := beq_eq_false_iff_ne.mpr c23
 have c23b1 := bne_iff_ne.mpr c23
 simp only [Option.some.injEq, Prod.mk.injEq] at H
 obtain ⟨rfl, rfl, rfl⟩ := H
 go_enter Try.func222, Try.ntmps222
 go_wp2_with (first | ((with_reducible refine gate_dst (N := 2) rfl ?_); refine box_event ?hg (N := 2) ?hd (cs := #[.slice none 0 0]) (t := 52) ?hr ?_; (case hd => rfl); (case hg => rfl); (case hr => first | (go_simp; done) | (go_simp; rfl)); intro gb359 hg w52 hbox hb; replace HB := jA (jB (by repeat (first | (with_reducible first | exact HB.out | apply Xa | refine jH ?_ (qE HI0.out)) | exact HB.out)) hb); have BK359 := jA (hbox); have GW359 := jA ((by rw [hg]; exact (je (w := w) (g := g) (row := none) (by repeat (first | (with_reducible first | exact HK.out | apply jG | apply Xk) | exact HK.out))) : w.heap.size ≤ gb359)); have GE359 := jA ((Nat.le_trans HW0.out (by rw [hg]; exact (je (w := w) (g := g) (row := none) (by repeat (first | (with_reducible first | exact HK.out | apply jG | apply Xk) | exact HK.out))) : w.heap.size ≤ gb359) : w0.heap.size ≤ gb359)); replace HK := jA (jS (by repeat (first | (with_reducible first | exact HK.out | apply jG | apply Xk) | exact HK.out)) (jb hb g none) (.inl rfl)); have NB0_359 := jA ((by rw [hg]; exact jZ (qD (show IsS102 w0 _ g s0_0 s0_1 s0_2 from by repeat (first | (with_reducible first | exact HI0.out | apply Xs | apply qG | apply qH) | exact HI0.out))) : g ≠ gb359)); have NB359_0 := jA ((by rw [hg]; exact ja (qD (show IsS102 w0 _ g s0_0 s0_1 s0_2 from by repeat (first | (with_reducible first | exact HI0.out | apply Xs | apply qG | apply qH) | exact HI0.out))) : gb359 ≠ g)); replace HI0 := jA (qA (by repeat (first | (with_reducible first | exact HI0.out | apply Xs | apply qG | apply qH) | exact HI0.out)) hb); clear hb hbox hg) | (refine Gl 5 #[.pointer (some ⟨g, 0, none⟩), .int .i64 5] Try.func288 ?_; (with_reducible refine (spec_l1Cur_surePuzzle.calls k g s0_0 s0_1 s0_2 5 t360 t363 t364 w0 _ ?side1 ?side2 A2.out).mono ?_); (case side1 => repeat (first | (with_reducible first | exact HI0.out | apply Xs | apply qG | apply qH | refine qF ?_ NB0_359.out _) | exact HI0.out)); (case side2 => repeat (first | (with_reducible first | exact HB.out | apply Xa | refine jH ?_ (qE HI0.out) | refine jH ?_ GE359.out) | exact HB.out)); rintro e w53 ⟨v361, rfl, ho0, hi, hb, hk⟩; refine ⟨_, rfl, ?_⟩; replace BK359 := jA (jd hk (g' := gb359) (o := .cells #[.slice none 0 0] 52 (0, 0)) (Bm BK359.out) NB359_0.out (by simp)); have HO362 := jA (jf ho0 (je (w := w) (g := g) (row := none) (by repeat (first | (with_reducible first | exact HK.out | apply jG | apply Xk | refine jT ?_ GW359.out _) | exact HK.out)))); replace HK := jA (jS (by repeat (first | (with_reducible first | exact HK.out | apply jG | apply Xk | refine jT ?_ GW359.out _) | exact HK.out)) hk (.inl rfl)); replace HB := jA (hb); replace HI0 := jA (hi); clear hb hk hi ho0) | ((with_reducible refine gate_dst (N := 3) rfl ?_); refine box_event ?hg (N := 3) ?hd (cs := #[.slice none 0 0]) (t := 52) ?hr ?_; (case hd => rfl); (case hg => rfl); (case hr => first | (go_simp; done) | (go_simp; rfl)); intro gb365 hg w54 hbox hb; replace HO362 := jA (Kd.R_below (Rm HO362.out) hb); replace HB := jA (jB (by repeat (first | (with_reducible first | exact HB.out | apply Xa | refine jH ?_ (qE HI0.out) | refine jH ?_ GE359.out) | exact HB.out)) hb); have BK365 := jA (hbox); have GW365 := jA ((by rw [hg]; exact (je (w := w) (g := g) (row := none) (by repeat (first | (with_reducible first | exact HK.out | apply jG | apply Xk | refine jT ?_ GW359.out _) | exact HK.out))) : w.heap.size ≤ gb365)); have GE365 := jA ((Nat.le_trans HW0.out (by rw [hg]; exact (je (w := w) (g := g) (row := none) (by repeat (first | (with_reducible first | exact HK.out | apply jG | apply Xk | refine jT ?_ GW359.out _) | exact HK.out))) : w.heap.size ≤ gb365) : w0.heap.size ≤ gb365)); replace HK := jA (jS (by repeat (first | (with_reducible first | exact HK.out | apply jG | apply Xk | refine jT ?_ GW359.out _) | exact HK.out)) (jb hb g none) (.inl rfl)); have NB359_365 := jA ((by rw [hg]; exact jZ (blk_lt (g := gb359) (o := .cells #[.slice none 0 0] 52 (0, 0)) (Bm BK359.out)) : gb359 ≠ gb365)); have NB365_359 := jA ((by rw [hg]; exact ja (blk_lt (g := gb359) (o := .cells #[.slice none 0 0] 52 (0, 0)) (Bm BK359.out)) : gb365 ≠ gb359)); replace BK359 := jA (jN (g := gb359) (o := .cells #[.slice none 0 0] 52 (0, 0)) (Bm BK359.out) hb); have NB0_365 := jA ((by rw [hg]; exact jZ (qD (show IsS102 w0 _ g s0_0 t363 t364 from by repeat (first | (with_reducible first | exact HI0.out | apply Xs | apply qG | apply qH | refine qF ?_ NB0_359.out _) | exact HI0.out))) : g ≠ gb365)); have NB365_0 := jA ((by rw [hg]; exact ja (qD (show IsS102 w0 _ g s0_0 t363 t364 from by repeat (first | (with_reducible first | exact HI0.out | apply Xs | apply qG | apply qH | refine qF ?_ NB0_359.out _) | exact HI0.out))) : gb365 ≠ g)); replace HI0 := jA (qA (by repeat (first | (with_reducible first | exact HI0.out | apply Xs | apply qG | apply qH | refine qF ?_ NB0_359.out _) | exact HI0.out)) hb); clear hb hbox hg; obtain ⟨Ao55, co55, eo55⟩ := jq HO362.out; subst eo55; have hnb56 := NB365_359.out; have hnc56 := NB359_365.out; have hnb57 := NB365_0.out; have hnc57 := NB0_365.out; have hcz58_0 : w54.cell? ⟨gb365, 0, none⟩ = some (.slice none 0 0) := (jE BK365.out 0).trans rfl; have hfz58_0 := jF BK365.out 0) | (refine Gl 7 #[.pointer (some ⟨g, 0, none⟩), .int .i64 12] Try.func214 ?_; (with_reducible refine (spec_l1Cur_pick.calls g s0_0 t363 t364 12 t366 t367 t368 w0 _ ?side1 ?side2 A3.out).mono ?_); (case side1 => repeat (first | (with_reducible first | exact HI0.out | apply Xs | apply qG | apply qH | refine qF ?_ NB0_359.out _ | refine qF ?_ NB0_365.out _) | exact HI0.out)); (case side2 => repeat (first | (with_reducible first | exact HB.out | apply Xa | refine jH ?_ (qE HI0.out) | refine jH ?_ GE359.out | refine jH ?_ GE365.out) | exact HB.out)); rintro e w59 ⟨rfl, hi, hb, hk⟩; refine ⟨_, rfl, ?_⟩; replace BK359 := jA (jd hk (g' := gb359) (o := .cells #[.slice none 0 0] 52 (0, 0)) (by (with_reducible repeat refine Xg ?_); refine jk ?_ NB359_365.out _; (with_reducible repeat refine Xg ?_); exact BK359.out) NB359_0.out (by simp)); replace HO362 := jA (jW (jh (qB (show IsS102 w0 _ g s0_0 t363 t364 from by repeat (first | (with_reducible first | exact HI0.out | apply Xs | apply qG | apply qH | refine qF ?_ NB0_359.out _ | refine qF ?_ NB0_365.out _) | exact HI0.out)) (by (with_reducible repeat apply Xq); exact (jW (jg (p := ⟨gb365, 0, none⟩) (jm HO362.out BK365.out (by decide)) (fun _ hk => hk.2) (.slice Ao55 t360.length co55)) (fun _ h_ => h_.1))) (by decide)) hk (fun _ h => h.2)) (fun _ h => h.1)); replace BK365 := jA (jd hk (g' := gb365) (o := .cells #[.slice Ao55 t360.length co55] 52 (0, 0)) (by (with_reducible repeat refine Xg ?_); refine jp (cs := #[.slice none 0 0]) ?_ 0 _ rfl; (with_reducible repeat refine Xg ?_); exact BK365.out) NB365_0.out (by simp)); replace HK := jA (jS (by repeat (first | (with_reducible first | exact HK.out | apply jG | apply Xk | refine jT ?_ GW359.out _ | refine jT ?_ GW365.out _) | exact HK.out)) hk (.inl rfl)); replace HB := jA (hb); replace HI0 := jA (hi); clear hb hk hi; have hcz60_0 : w59.cell? ⟨gb365, 0, none⟩ = some (.slice Ao55 t360.length co55) := (jE BK365.out 0).trans rfl; have hfz60_0 := jF BK365.out 0; have hnb61 := NB359_0.out; have hnc61 := NB0_359.out; have hcz62_0 : w59.cell? ⟨gb359, 0, none⟩ = some (.slice none 0 0) := (jE BK359.out 0).trans rfl; have hfz62_0 := jF BK359.out 0))
 refine bodyPost_ret (results_cell_row rfl _ _ gb359 52 #[.slice Ao55 t360.length co55] (0, 0) _ rfl (by (with_reducible repeat refine Xg ?_); refine jp (cs := #[.slice none 0 0]) ?_ 0 _ rfl; (with_reducible repeat refine Xg ?_); exact BK359.out) Try.underlying52 rfl (by kernel_rfl)) rfl ?_
 exact ⟨_, Re, by (with_reducible repeat apply Xq); exact jW (jg (p := ⟨gb359, 0, none⟩) (jm HO362.out BK359.out (by decide)) (fun _ hk => hk.2) (.slice Ao55 t360.length co55)) (fun _ hk => trivial), by repeat (first | (with_reducible first | exact HI0.out | apply Xs | apply qG | apply qH | refine qF ?_ NB0_359.out _ | refine qF ?_ NB0_365.out _) | exact HI0.out), by repeat (first | (with_reducible first | exact HB.out | apply Xa | refine jH ?_ (qE HI0.out) | refine jH ?_ GE359.out | refine jH ?_ GE365.out) | exact HB.out), by repeat (first | (with_reducible first | exact HK.out | apply jG | apply Xk | refine jT ?_ GW359.out _ | refine jT ?_ GW365.out _) | exact HK.out)⟩

end Go.Proofs.Ytgeoihhibglhgaa.PFnPiecesHidden
