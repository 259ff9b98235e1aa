-- printed by wip/xp
import Derived.Test.YtgeoihhibglhgaaPFnPiecesHiddenx0
import Derived.Test.YtgeoihhibglhgaaPFnPiecesHiddenx3
import Derived.Test.YtgeoihhibglhgaaPFnPiecesHiddenx4
import Derived.Test.YtgeoihhibglhgaaPFnPiecesHiddenx7
import Derived.Test.YtgeoihhibglhgaaPFnPiecesHiddenx8
import Derived.Test.YtgeoihhibglhgaaPFnPiecesHiddenx10
set_option maxHeartbeats 8000000
set_option maxRecDepth 100000
namespace Go.Proofs.Ytgeoihhibglhgaa.PFnPiecesHidden
open Go.RowKit Go.Proofs.YtgeoihhibglhgaaW.PrintWords Go.Proofs.YtgeoihhibglhgaaW.PrintLast Go.Proofs.YtgeoihhibglhgaaW.PrintMore Go.Proofs.Ytgeoihhibglhgaa.Xmv
attribute [local go_sem] max2_int min2_int max_two min_two max_three min_three max_four min_four
set_option linter.unusedVariables false
set_option linter.unusedSimpArgs false

/-! ### spec_DrawHarderPuzzle: function 85 -/
mutual
def spec_DrawHarderPuzzle_in.j0 : Nat → List Int → Bool → List Int → Int → Int → List (S58) → Option ((List (S58)) × Int × Int)
 | 0, _, _, _, _, _, _ => none
 | k + 1, x4, x28, x1000, x1001, x1002, x400000 => if x28 = true then ((spec_l1Cur_puzzle.f k x1000 x1001 x1002).bind fun bt403 => (some (bt403.1, bt403.2.1, bt403.2.2))) else ((spec_pzOf.f k 0 0 x4).bind fun bt408 => (if x400000.length < 5864062014805 then (spec_DrawHarderPuzzle_in.l0 k x4 x4 (x4.length : Int) 0 x1000 x1001 x1002 (x400000 ++ [(⟨bt408.1, bt408.2.1, bt408.2.2⟩ : S58)])) else (none)))
def spec_DrawHarderPuzzle_in.l0 : Nat → List Int → List Int → Int → Int → List Int → Int → Int → List (S58) → Option ((List (S58)) × Int × Int)
 | 0, _, _, _, _, _, _, _, _ => none
 | k + 1, x4, x38, x39, x40, x1000, x1001, x1002, x400000 => if x40 < x39 then (if 0 ≤ x40 then (if x40 < (x38.length : Int) then (if (x400000.length : Int) < 6 then (if x40 = 0 then ((spec_pzOf.f k 5 (rd x38 x40) x4).bind fun bt415 => (if x400000.length < 5864062014805 then (spec_DrawHarderPuzzle_in.l0 k x4 x38 x39 (wrap64 (x40 + 1)) x1000 x1001 x1002 (x400000 ++ [(⟨bt415.1, bt415.2.1, bt415.2.2⟩ : S58)])) else (none))) else (if 0 ≤ (wrap64 (x40 - 1)) then (if (wrap64 (x40 - 1)) < (x4.length : Int) then (if (rd x4 (wrap64 (x40 - 1))) = (rd x38 x40) then (spec_DrawHarderPuzzle_in.l0 k x4 x38 x39 (wrap64 (x40 + 1)) x1000 x1001 x1002 x400000) else ((spec_pzOf.f k 5 (rd x38 x40) x4).bind fun bt422 => (if x400000.length < 5864062014805 then (spec_DrawHarderPuzzle_in.l0 k x4 x38 x39 (wrap64 (x40 + 1)) x1000 x1001 x1002 (x400000 ++ [(⟨bt422.1, bt422.2.1, bt422.2.2⟩ : S58)])) else (none)))) else (none)) else (none))) else (spec_DrawHarderPuzzle_in.l0 k x4 x38 x39 (wrap64 (x40 + 1)) x1000 x1001 x1002 x400000)) else (none)) else (none)) else (some (x400000, x1001, x1002))
end
def spec_DrawHarderPuzzle_in.f (k : Nat) (s0_0 : List Int) (s0_1 : Int) (s0_2 : Int) : Option ((List (S58)) × Int × Int) := (spec_l1Cur_hidden.f k s0_0 s0_1 s0_2).bind fun bt384 => ((spec_l1Cur_pick.f s0_0 bt384.2.1 bt384.2.2 3).bind fun bt389 => ((spec_l1Cur_pick.f s0_0 bt389.2.1 bt389.2.2 10000).bind fun bt392 => ((spec_MakePuzzle.f k bt384.1 bt389.1 bt392.1).bind fun bt395 => (if bt395.2 = true then ((spec_l1Cur_one.f s0_0 bt392.2.1 bt392.2.2 4).bind fun bt400 => (spec_DrawHarderPuzzle_in.j0 k bt384.1 bt400.1 s0_0 bt400.2.1 bt400.2.2 bt395.1)) else (spec_DrawHarderPuzzle_in.j0 k bt384.1 true s0_0 bt392.2.1 bt392.2.2 bt395.1)))))
def spec_DrawHarderPuzzle_in.T6 : Bool × List (List Nat × List Nat) := (true, [([], []), ([0], [0]), ([], []), ([2], [2]), ([3], [3]), ([1, 4, 3], [1, 4]), ([0, 1, 2, 3, 4, 5], []), ([6, 5, 5, 0, 1, 2, 3, 4, 5], [5, 6])])
def spec_DrawHarderPuzzle_in.B6 : List Nat := [0, 1, 0, 4, 12, 31, 63, 127]
theorem spec_DrawHarderPuzzle_in.tab6 : rtab .any (opsOf Try.f85 6) = spec_DrawHarderPuzzle_in.T6 := by kernel_rfl
theorem spec_DrawHarderPuzzle_in.bits6 : waitsOk spec_DrawHarderPuzzle_in.T6.2 spec_DrawHarderPuzzle_in.B6 = true := by kernel_rfl
def spec_DrawHarderPuzzle_in.T11 : Bool × List (List Nat × List Nat) := (true, [([], []), ([0], [0]), ([], []), ([], []), ([2, 3], [2, 3]), ([4], [4]), ([1, 5, 4], [1, 5]), ([0, 1, 2, 3, 4, 5, 6], []), ([7, 6, 6, 0, 1, 2, 3, 4, 5, 6], [6, 7])])
def spec_DrawHarderPuzzle_in.B11 : List Nat := [0, 1, 0, 0, 12, 28, 63, 127, 255]
theorem spec_DrawHarderPuzzle_in.tab11 : rtab .any (opsOf Try.f85 11) = spec_DrawHarderPuzzle_in.T11 := by kernel_rfl
theorem spec_DrawHarderPuzzle_in.bits11 : waitsOk spec_DrawHarderPuzzle_in.T11.2 spec_DrawHarderPuzzle_in.B11 = true := by kernel_rfl
def spec_DrawHarderPuzzle.f (k : Nat) (l0 : List Int) : Option (List (S58)) := (spec_DrawHarderPuzzle_in.f k l0 0 0).bind fun t_ => some (t_.1)
theorem spec_DrawHarderPuzzle.calls (k : Nat) (A0_ : Option Addr) (c0_ : Nat) (s0_0 : List Int) (r1 : List (S58)) (w0 : World) (hr0_ : Kd.C (Kd.int .u8) w0 A0_ s0_0.length s0_0) (hc0_ : s0_0.length ≤ c0_) (h : spec_DrawHarderPuzzle.f k s0_0 = some (r1)) :
 Calls Try.prog 85 #[.slice A0_ s0_0.length c0_] w0 fun e w' => ∃ v0_ : Value, e = .returned (.agg #[v0_]) ∧ Kd.R k58 58 w' w0.heap.size (fun _ => True) v0_ r1 ∧ Below w0.heap.size w0 w' := by
 unfold spec_DrawHarderPuzzle.f at h
 obtain ⟨tt_, h0_, h⟩ := Option.bind_eq_some_iff.1 h
 obtain ⟨y0_, r2, r3⟩ := tt_
 have h := (jM h).symm
 subst h
 obtain ⟨s0_1, es1_⟩ : ∃ s_ : Int, s_ = 0 := ⟨_, rfl⟩
 obtain ⟨s0_2, es2_⟩ : ∃ s_ : Int, s_ = 0 := ⟨_, rfl⟩
 have h : spec_DrawHarderPuzzle_in.f k s0_0 s0_1 s0_2 = some (r1, r2, r3) := by subst es1_ es2_; exact h0_
 clear h0_
 obtain ⟨gb383, hg0_⟩ : ∃ g_, g_ = w0.heap.size := ⟨_, rfl⟩
 obtain ⟨g, hg_⟩ : ∃ g_, g_ = w0.heap.size + 1 := ⟨_, rfl⟩
 obtain ⟨w, hw_⟩ : ∃ w_, w_ = (w0.alloc (.cells #[.slice none 0 0] 52)).alloc (.cells #[.slice A0_ s0_0.length c0_, .int .i64 0, .int .u64 0] 102) := ⟨_, rfl⟩
 have hI : IsS102 w0 w g s0_0 s0_1 s0_2 := by subst hw_ hg_ es1_ es2_; have h_ := blk_new (w0.alloc (.cells #[.slice none 0 0] 52)) (.cells #[.slice A0_ s0_0.length c0_, .int .i64 0, .int .u64 0] 102); rw [show (w0.alloc (.cells #[.slice none 0 0] 52)).heap.size = w0.heap.size + 1 from by simp] at h_; exact ⟨A0_, c0_, h_, Nat.le_add_right _ _, hr0_⟩
 have hB : Below w0.heap.size w0 w := by subst hw_; exact jP (jP (jU _ _) _) _
 have BK383 := jA (show w.heap[gb383]? = some (.cells #[.slice none 0 0] 52 (0, 0)) from by subst hw_ hg0_; have h_ := blk_new w0 (.cells #[.slice none 0 0] 52); exact blk_alloc (h_) _)
 have GW383 := jA (show w0.heap.size ≤ gb383 from by omega)
 have GE383 := jA (show w0.heap.size ≤ gb383 from by omega)
 have NB0_383 := jA (show g ≠ gb383 from by omega)
 have NB383_0 := jA (show gb383 ≠ g from by omega)
 have HGW_ := jA (And.intro hw_ (And.intro hg_ hg0_))
 clear hg_ hw_ hg0_ es1_ es2_ hr0_ hc0_
 refine (show Calls Try.prog 85 #[.slice A0_ s0_0.length c0_] w0 (fun e w' => ∃ v0_ : Value, e = .returned (.agg #[v0_]) ∧ Kd.R k58 58 w' w0.heap.size (fun _ => True) v0_ r1 ∧ IsS102 w0 w' g s0_0 r2 r3 ∧ Below w0.heap.size w0 w' ∧ KeepBut w0 w' g none) from ?_).mono (fun e w' hx_ => by obtain ⟨v0_, rfl, hx1_, hx2_, hx3_, hx4_⟩ := hx_; exact ⟨v0_, rfl, hx1_, hx3_⟩)
 have hu52 := Try.underlying52
 have HI0 := jA hI
 have HK := jA (jb hB g none)
 have HL := jA (jX w0.heap.size)
 clear hI
 have HW0 := jA (jX w0.heap.size)
 have HB := jA hB
 clear hB
 have H := h; unfold spec_DrawHarderPuzzle.f at H
 clear h
 replace H := jD H
 obtain ⟨⟨t384, t387, t388⟩, A20, H⟩ := H
 have A2 := jA A20
 clear A20
 replace H := jD H
 obtain ⟨⟨t389, t390, t391⟩, A30, H⟩ := H
 have A3 := jA A30
 clear A30
 replace H := jD H
 obtain ⟨⟨t392, t393, t394⟩, A40, H⟩ := H
 have A4 := jA A40
 clear A40
 replace H := jD H
 obtain ⟨⟨t395, t398⟩, A50, H⟩ := H
 have A5 := jA A50
 clear A50
 have HC6 := jA H
 clear H
 go_enter Try.func85, Try.ntmps85
 go_upto_region 2 with (fail)
 (try simp only [Act.put, List.setIfInBounds_toArray, List.set_cons_zero, List.set_cons_succ])
 have hgw_ := HGW_.out
 rw [← hgw_.1]
 (try rw [← hgw_.2.1])
 (try rw [← hgw_.2.2])
 clear hgw_
 go_upto_region 4 with (first | ((with_reducible refine gate_dst (N := 2) rfl ?_); refine box_event ?hg (N := 2) ?hd (cs := #[.slice none 0 0]) (t := 52) ?hr ?_; (case hd => rfl); (case hg => rfl); (case hr => first | (go_simp; done) | (go_simp; rfl)); intro gb383 hg w7 hbox hb; replace HB := jA (jB (by repeat (first | (with_reducible first | exact HB.out | apply Xa | refine jH ?_ (qE HI0.out)) | exact HB.out)) hb); have BK383 := jA (hbox); have GW383 := jA ((by rw [hg]; exact (je (w := w0) (g := g) (row := none) (by repeat (first | (with_reducible first | exact HK.out | apply jG | apply Xk) | exact HK.out))) : w0.heap.size ≤ gb383)); have GE383 := jA ((Nat.le_trans HW0.out (by rw [hg]; exact (je (w := w0) (g := g) (row := none) (by repeat (first | (with_reducible first | exact HK.out | apply jG | apply Xk) | exact HK.out))) : w0.heap.size ≤ gb383) : w0.heap.size ≤ gb383)); replace HK := jA (jS (by repeat (first | (with_reducible first | exact HK.out | apply jG | apply Xk) | exact HK.out)) (jb hb g none) (.inl rfl)); have NB0_383 := jA ((by rw [hg]; exact jZ (qD (show IsS102 w0 _ g s0_0 s0_1 s0_2 from by repeat (first | (with_reducible first | exact HI0.out | apply Xs | apply qG | apply qH) | exact HI0.out))) : g ≠ gb383)); have NB383_0 := jA ((by rw [hg]; exact ja (qD (show IsS102 w0 _ g s0_0 s0_1 s0_2 from by repeat (first | (with_reducible first | exact HI0.out | apply Xs | apply qG | apply qH) | exact HI0.out))) : gb383 ≠ g)); replace HI0 := jA (qA (by repeat (first | (with_reducible first | exact HI0.out | apply Xs | apply qG | apply qH) | exact HI0.out)) hb); clear hb hbox hg) | (refine Gl 13 #[.pointer (some ⟨g, 0, none⟩)] Try.func213 ?_; (with_reducible refine (spec_l1Cur_hidden.calls k g s0_0 s0_1 s0_2 t384 t387 t388 w0 _ ?side1 ?side2 A2.out).mono ?_); (case side1 => repeat (first | (with_reducible first | exact HI0.out | apply Xs | apply qG | apply qH | refine qF ?_ NB0_383.out _) | exact HI0.out)); (case side2 => repeat (first | (with_reducible first | exact HB.out | apply Xa | refine jH ?_ (qE HI0.out) | refine jH ?_ GE383.out) | exact HB.out)); rintro e w8 ⟨v385, rfl, ho0, hi, hb, hk⟩; refine ⟨_, rfl, ?_⟩; replace BK383 := jA (jd hk (g' := gb383) (o := .cells #[.slice none 0 0] 52 (0, 0)) (Bm BK383.out) NB383_0.out (by simp)); have HO386 := jA (jf ho0 (je (w := w0) (g := g) (row := none) (by repeat (first | (with_reducible first | exact HK.out | apply jG | apply Xk | refine jT ?_ GW383.out _) | exact HK.out)))); replace HK := jA (jS (by repeat (first | (with_reducible first | exact HK.out | apply jG | apply Xk | refine jT ?_ GW383.out _) | exact HK.out)) hk (.inl rfl)); replace HB := jA (hb); replace HI0 := jA (hi); clear hb hk hi ho0) | (refine Gl 17 #[.pointer (some ⟨g, 0, none⟩), .int .i64 3] Try.func214 ?_; (with_reducible refine (spec_l1Cur_pick.calls g s0_0 t387 t388 3 t389 t390 t391 w0 _ ?side1 ?side2 A3.out).mono ?_); (case side1 => repeat (first | (with_reducible first | exact HI0.out | apply Xs | apply qG | apply qH | refine qF ?_ NB0_383.out _) | exact HI0.out)); (case side2 => repeat (first | (with_reducible first | exact HB.out | apply Xa | refine jH ?_ (qE HI0.out) | refine jH ?_ GE383.out) | exact HB.out)); rintro e w9 ⟨rfl, hi, hb, hk⟩; refine ⟨_, rfl, ?_⟩; replace BK383 := jA (jd hk (g' := gb383) (o := .cells #[.slice none 0 0] 52 (0, 0)) (Bm BK383.out) NB383_0.out (by simp)); replace HO386 := jA (jW (jh (qB (show IsS102 w0 _ g s0_0 t387 t388 from by repeat (first | (with_reducible first | exact HI0.out | apply Xs | apply qG | apply qH | refine qF ?_ NB0_383.out _) | exact HI0.out)) (Rm HO386.out) (by decide)) hk (fun _ h => h.2)) (fun _ h => h.1)); replace HK := jA (jS (by repeat (first | (with_reducible first | exact HK.out | apply jG | apply Xk | refine jT ?_ GW383.out _) | exact HK.out)) hk (.inl rfl)); replace HB := jA (hb); replace HI0 := jA (hi); clear hb hk hi) | (refine Gl 19 #[.pointer (some ⟨g, 0, none⟩), .int .i64 10000] Try.func214 ?_; (with_reducible refine (spec_l1Cur_pick.calls g s0_0 t390 t391 10000 t392 t393 t394 w0 _ ?side1 ?side2 A4.out).mono ?_); (case side1 => repeat (first | (with_reducible first | exact HI0.out | apply Xs | apply qG | apply qH | refine qF ?_ NB0_383.out _) | exact HI0.out)); (case side2 => repeat (first | (with_reducible first | exact HB.out | apply Xa | refine jH ?_ (qE HI0.out) | refine jH ?_ GE383.out) | exact HB.out)); rintro e w10 ⟨rfl, hi, hb, hk⟩; refine ⟨_, rfl, ?_⟩; replace BK383 := jA (jd hk (g' := gb383) (o := .cells #[.slice none 0 0] 52 (0, 0)) (Bm BK383.out) NB383_0.out (by simp)); replace HO386 := jA (jW (jh (qB (show IsS102 w0 _ g s0_0 t390 t391 from by repeat (first | (with_reducible first | exact HI0.out | apply Xs | apply qG | apply qH | refine qF ?_ NB0_383.out _) | exact HI0.out)) (Rm HO386.out) (by decide)) hk (fun _ h => h.2)) (fun _ h => h.1)); replace HK := jA (jS (by repeat (first | (with_reducible first | exact HK.out | apply jG | apply Xk | refine jT ?_ GW383.out _) | exact HK.out)) hk (.inl rfl)); replace HB := jA (hb); replace HI0 := jA (hi); clear hb hk hi; obtain ⟨Ao11, co11, eo11⟩ := jq HO386.out; subst eo11) | (refine Gl 20 #[.slice Ao11 t384.length co11, .int .i64 t389, .int .i64 t392] Try.func79 ?_; (with_reducible refine (spec_MakePuzzle.calls k _ _ t384 t389 t392 t395 t398 _ (Cm (Kd.R_reads' HO386.out).2.2) ((Kd.R_reads' HO386.out).2.1) A5.out).mono ?_); rintro e w12 ⟨v396, rfl, ho0, hb⟩; refine ⟨_, rfl, ?_⟩; replace HO386 := jA (Kd.R_below (Rm HO386.out) hb); have HO397 := jA (jf ho0 (je (w := w0) (g := g) (row := none) (by repeat (first | (with_reducible first | exact HK.out | apply jG | apply Xk | refine jT ?_ GW383.out _) | exact HK.out)))); replace BK383 := jA (jN (g := gb383) (o := .cells #[.slice none 0 0] 52 (0, 0)) (Bm BK383.out) hb); replace HK := jA (jS (by repeat (first | (with_reducible first | exact HK.out | apply jG | apply Xk | refine jT ?_ GW383.out _) | exact HK.out)) (jb hb g none) (.inl rfl)); replace HB := jA (jB (by repeat (first | (with_reducible first | exact HB.out | apply Xa | refine jH ?_ (qE HI0.out) | refine jH ?_ GE383.out) | exact HB.out)) hb); replace HI0 := jA (qA (by repeat (first | (with_reducible first | exact HI0.out | apply Xs | apply qG | apply qH | refine qF ?_ NB0_383.out _) | exact HI0.out)) hb); clear hb ho0) | ((with_reducible refine gate_dst (N := 5) rfl ?_); refine box_event ?hg (N := 5) ?hd (cs := #[.slice none 0 0]) (t := 52) ?hr ?_; (case hd => rfl); (case hg => rfl); (case hr => first | (go_simp; done) | (go_simp; rfl)); intro gb399 hg w13 hbox hb; replace HO386 := jA (Kd.R_below (Rm HO386.out) hb); replace HO397 := jA (Kd.R_below (Rm HO397.out) hb); replace HB := jA (jB (by repeat (first | (with_reducible first | exact HB.out | apply Xa | refine jH ?_ (qE HI0.out) | refine jH ?_ GE383.out) | exact HB.out)) hb); have BK399 := jA (hbox); have GW399 := jA ((by rw [hg]; exact (je (w := w0) (g := g) (row := none) (by repeat (first | (with_reducible first | exact HK.out | apply jG | apply Xk | refine jT ?_ GW383.out _) | exact HK.out))) : w0.heap.size ≤ gb399)); have GE399 := jA ((Nat.le_trans HW0.out (by rw [hg]; exact (je (w := w0) (g := g) (row := none) (by repeat (first | (with_reducible first | exact HK.out | apply jG | apply Xk | refine jT ?_ GW383.out _) | exact HK.out))) : w0.heap.size ≤ gb399) : w0.heap.size ≤ gb399)); replace HK := jA (jS (by repeat (first | (with_reducible first | exact HK.out | apply jG | apply Xk | refine jT ?_ GW383.out _) | exact HK.out)) (jb hb g none) (.inl rfl)); have NB383_399 := jA ((by rw [hg]; exact jZ (blk_lt (g := gb383) (o := .cells #[.slice none 0 0] 52 (0, 0)) (Bm BK383.out)) : gb383 ≠ gb399)); have NB399_383 := jA ((by rw [hg]; exact ja (blk_lt (g := gb383) (o := .cells #[.slice none 0 0] 52 (0, 0)) (Bm BK383.out)) : gb399 ≠ gb383)); replace BK383 := jA (jN (g := gb383) (o := .cells #[.slice none 0 0] 52 (0, 0)) (Bm BK383.out) hb); have NB0_399 := jA ((by rw [hg]; exact jZ (qD (show IsS102 w0 _ g s0_0 t393 t394 from by repeat (first | (with_reducible first | exact HI0.out | apply Xs | apply qG | apply qH | refine qF ?_ NB0_383.out _) | exact HI0.out))) : g ≠ gb399)); have NB399_0 := jA ((by rw [hg]; exact ja (qD (show IsS102 w0 _ g s0_0 t393 t394 from by repeat (first | (with_reducible first | exact HI0.out | apply Xs | apply qG | apply qH | refine qF ?_ NB0_383.out _) | exact HI0.out))) : gb399 ≠ g)); replace HI0 := jA (qA (by repeat (first | (with_reducible first | exact HI0.out | apply Xs | apply qG | apply qH | refine qF ?_ NB0_383.out _) | exact HI0.out)) hb); clear hb hbox hg; obtain ⟨Ao14, co14, eo14⟩ := jq HO397.out; subst eo14; have hnb15 := NB399_383.out; have hnc15 := NB383_399.out; have hnb16 := NB399_0.out; have hnc16 := NB0_399.out; have hcz17_0 : w13.cell? ⟨gb399, 0, none⟩ = some (.slice none 0 0) := (jE BK399.out 0).trans rfl; have hfz17_0 := jF BK399.out 0))
 (try simp only [Act.put, List.setIfInBounds_toArray, List.set_cons_zero, List.set_cons_succ])
 go_cut [28] (fun v28 wc => ∃ (kq : Nat) (x28_5 : Bool) (x1001_5 : Int) (x1002_5 : Int), v28 = .bool x28_5 ∧ Aside0 (spec_DrawHarderPuzzle_in.j0 kq t384 x28_5 s0_0 x1001_5 x1002_5 t395 = some (r1, r2, r3)) ∧ Aside0 (kq ≤ k) ∧ Aside0 (Kd.R (Kd.int .i64) 3 wc w0.heap.size (fun _ => True) (.slice Ao11 t384.length co11) t384) ∧ Aside0 (Kd.R k58 58 wc w0.heap.size (fun _ => True) (.slice Ao14 t395.length co14) t395) ∧ Aside0 (wc.heap[gb383]? = some (.cells #[(.slice none 0 0)] 52 (0, 0))) ∧ Aside0 (wc.heap[gb399]? = some (.cells #[(.slice Ao14 t395.length co14)] 52 (0, 0))) ∧ Aside0 (IsS102 w0 wc g s0_0 x1001_5 x1002_5) ∧ Aside0 (KeepBut w0 wc g none) ∧ Aside0 (Below w0.heap.size w0 wc))
 case first =>
  have H := HC6.out
  clear HC6
  replace H := Iw H; rcases H with ⟨rfl, H⟩ | ⟨rfl, H⟩
  · replace H := jD H
    obtain ⟨⟨t400, t401, t402⟩, A190, H⟩ := H
    have A19 := jA A190
    clear A190
    have H' := jA H
    clear H
    go_wp2_with (first | (go_at_call 212; (with_reducible refine (spec_l1Cur_one.calls g s0_0 t393 t394 4 t400 t401 t402 w0 _ ?side1 ?side2 A19.out).mono ?_); (case side1 => repeat (first | (with_reducible first | exact HI0.out | apply Xs | apply qG | apply qH | refine qF ?_ NB0_383.out _ | refine qF ?_ NB0_399.out _) | exact HI0.out)); (case side2 => repeat (first | (with_reducible first | exact HB.out | apply Xa | refine jH ?_ (qE HI0.out) | refine jH ?_ GE383.out | refine jH ?_ GE399.out) | exact HB.out)); rintro e w20 ⟨rfl, hi, hb, hk⟩; replace BK383 := jA (jd hk (g' := gb383) (o := .cells #[.slice none 0 0] 52 (0, 0)) (by (with_reducible repeat refine Xg ?_); refine jk ?_ NB383_399.out _; (with_reducible repeat refine Xg ?_); exact BK383.out) NB383_0.out (by simp)); replace HO386 := jA (jW (jh (qB (show IsS102 w0 _ g s0_0 t393 t394 from by repeat (first | (with_reducible first | exact HI0.out | apply Xs | apply qG | apply qH | refine qF ?_ NB0_383.out _ | refine qF ?_ NB0_399.out _) | exact HI0.out)) (by (with_reducible repeat apply Xq); exact (jW (jg (p := ⟨gb399, 0, none⟩) (jm HO386.out BK399.out (by decide)) (fun _ hk => hk.2) (.slice Ao14 t395.length co14)) (fun _ h_ => h_.1))) (by decide)) hk (fun _ h => h.2)) (fun _ h => h.1)); replace HO397 := jA (jW (jh (qB (show IsS102 w0 _ g s0_0 t393 t394 from by repeat (first | (with_reducible first | exact HI0.out | apply Xs | apply qG | apply qH | refine qF ?_ NB0_383.out _ | refine qF ?_ NB0_399.out _) | exact HI0.out)) (by (with_reducible repeat apply Xq); exact (jW (jg (p := ⟨gb399, 0, none⟩) (jm HO397.out BK399.out (by decide)) (fun _ hk => hk.2) (.slice Ao14 t395.length co14)) (fun _ h_ => h_.1))) (by decide)) hk (fun _ h => h.2)) (fun _ h => h.1)); replace BK399 := jA (jd hk (g' := gb399) (o := .cells #[.slice Ao14 t395.length co14] 52 (0, 0)) (by (with_reducible repeat refine Xg ?_); refine jp (cs := #[.slice none 0 0]) ?_ 0 _ rfl; (with_reducible repeat refine Xg ?_); exact BK399.out) NB399_0.out (by simp)); replace HK := jA (jS (by repeat (first | (with_reducible first | exact HK.out | apply jG | apply Xk | refine jT ?_ GW383.out _ | refine jT ?_ GW399.out _) | exact HK.out)) hk (.inl rfl)); replace HB := jA (hb); replace HI0 := jA (hi); clear hb hk hi))
    go_meet
    case rel => exact ⟨_, (t400), (t401), (t402), Rs, H', ⟨by first | omega | exact jX _⟩, ⟨Rm HO386.out⟩, ⟨Rm HO397.out⟩, ⟨Bm BK383.out⟩, ⟨Bm BK399.out⟩, ⟨by repeat (first | (with_reducible first | exact HI0.out | apply Xs | apply qG | apply qH | refine qF ?_ NB0_383.out _ | refine qF ?_ NB0_399.out _) | exact HI0.out)⟩, ⟨by repeat (first | (with_reducible first | exact HK.out | apply jG | apply Xk | refine jT ?_ GW383.out _ | refine jT ?_ GW399.out _) | exact HK.out)⟩, ⟨by repeat (first | (with_reducible first | exact HB.out | apply Xa | refine jH ?_ (qE HI0.out) | refine jH ?_ GE383.out | refine jH ?_ GE399.out) | exact HB.out)⟩⟩
  have H' := jA H
  clear H
  go_wp2
  go_meet
  case rel => exact ⟨_, (true), (t393), (t394), Rs, H', ⟨by first | omega | exact jX _⟩, ⟨by (with_reducible repeat apply Xq); exact jW (jg (p := ⟨gb399, 0, none⟩) (jm HO386.out BK399.out (by decide)) (fun _ hk => hk.2) (.slice Ao14 t395.length co14)) (fun _ hk => trivial)⟩, ⟨by (with_reducible repeat apply Xq); exact jW (jg (p := ⟨gb399, 0, none⟩) (jm HO397.out BK399.out (by decide)) (fun _ hk => hk.2) (.slice Ao14 t395.length co14)) (fun _ hk => trivial)⟩, ⟨by (with_reducible repeat refine Xg ?_); refine jk ?_ NB383_399.out _; (with_reducible repeat refine Xg ?_); exact BK383.out⟩, ⟨by (with_reducible repeat refine Xg ?_); refine jp (cs := #[.slice none 0 0]) ?_ 0 _ rfl; (with_reducible repeat refine Xg ?_); exact BK399.out⟩, ⟨by repeat (first | (with_reducible first | exact HI0.out | apply Xs | apply qG | apply qH | refine qF ?_ NB0_383.out _ | refine qF ?_ NB0_399.out _) | exact HI0.out)⟩, ⟨by repeat (first | (with_reducible first | exact HK.out | apply jG | apply Xk | refine jT ?_ GW383.out _ | refine jT ?_ GW399.out _) | exact HK.out)⟩, ⟨by repeat (first | (with_reducible first | exact HB.out | apply Xa | refine jH ?_ (qE HI0.out) | refine jH ?_ GE383.out | refine jH ?_ GE399.out) | exact HB.out)⟩⟩
 case rest =>
  clear HC6
  try clear hcz17_0
  try clear hfz17_0
  obtain ⟨kq, x28_5, x1001_5, x1002_5, rfl, HA, HJ5, HO_4, HO_400000, BK383, BK399, HI0, HK, HB⟩ := hcut
  cases kq with
  | zero => exact absurd HA.out (by simp [spec_DrawHarderPuzzle_in.j0])
  | succ kj5 =>
   have H := HA.out
   clear HA
   simp only [spec_DrawHarderPuzzle_in.j0] at H
   by_cases c21 : x28_5 = true
   · subst c21
     have H1 : ((spec_l1Cur_puzzle.f kj5 s0_0 x1001_5 x1002_5).bind fun bt403 => (some (bt403.1, bt403.2.1, bt403.2.2))) = some (r1, r2, r3) := by rw [if_pos rfl] at H; exact H
     clear H
     have H := H1
     clear H1
     replace H := jD H
     obtain ⟨⟨t403, t406, t407⟩, A220, H⟩ := H
     have A22 := jA A220
     clear A220
     simp only [Option.some.injEq, Prod.mk.injEq] at H
     obtain ⟨rfl, rfl, rfl⟩ := H
     go_wp2_with (first | (refine Gl 30 #[.pointer (some ⟨g, 0, none⟩)] Try.func222 ?_; (with_reducible refine (spec_l1Cur_puzzle.calls kj5 g s0_0 x1001_5 x1002_5 t403 t406 t407 w0 _ ?side1 ?side2 A22.out).mono ?_); (case side1 => repeat (first | (with_reducible first | exact HI0.out | apply Xs | apply qG | apply qH | refine qF ?_ NB0_383.out _ | refine qF ?_ NB0_399.out _) | exact HI0.out)); (case side2 => repeat (first | (with_reducible first | exact HB.out | apply Xa | refine jH ?_ (qE HI0.out) | refine jH ?_ GE383.out | refine jH ?_ GE399.out) | exact HB.out)); rintro e w23 ⟨v404, rfl, ho0, hi, hb, hk⟩; refine ⟨_, rfl, ?_⟩; replace HO_4 := jA (jW (jh (qB (show IsS102 w0 _ g s0_0 x1001_5 x1002_5 from by repeat (first | (with_reducible first | exact HI0.out | apply Xs | apply qG | apply qH | refine qF ?_ NB0_383.out _ | refine qF ?_ NB0_399.out _) | exact HI0.out)) (Rm HO_4.out) (by decide)) hk (fun _ h => h.2)) (fun _ h => h.1)); replace BK383 := jA (jd hk (g' := gb383) (o := .cells #[.slice none 0 0] 52 (0, 0)) (Bm BK383.out) NB383_0.out (by simp)); replace BK399 := jA (jd hk (g' := gb399) (o := .cells #[.slice Ao14 t395.length co14] 52 (0, 0)) (Bm BK399.out) NB399_0.out (by simp)); have HO405 := jA (jf (Kd.R_new' ho0 (jr (Rm HO_400000.out))) (je (w := w0) (g := g) (row := none) (by repeat (first | (with_reducible first | exact HK.out | apply jG | apply Xk | refine jT ?_ GW383.out _ | refine jT ?_ GW399.out _) | exact HK.out)))); replace HO_400000 := jA (jW (Kd.R_told (Kd.R_oldK (qB (show IsS102 w0 _ g s0_0 x1001_5 x1002_5 from by repeat (first | (with_reducible first | exact HI0.out | apply Xs | apply qG | apply qH | refine qF ?_ NB0_383.out _ | refine qF ?_ NB0_399.out _) | exact HI0.out)) (Rm HO_400000.out) (by decide)) hk) (Kd.R_base ho0)) (fun _ h_ => h_.1)); replace HK := jA (jS (by repeat (first | (with_reducible first | exact HK.out | apply jG | apply Xk | refine jT ?_ GW383.out _ | refine jT ?_ GW399.out _) | exact HK.out)) hk (.inl rfl)); replace HB := jA (hb); replace HI0 := jA (hi); clear hb hk hi ho0; obtain ⟨Ao24, co24, eo24⟩ := jq HO405.out; subst eo24; have hnb25 := NB383_399.out; have hnc25 := NB399_383.out; have hnb26 := NB383_0.out; have hnc26 := NB0_383.out; have hcz27_0 : w23.cell? ⟨gb383, 0, none⟩ = some (.slice none 0 0) := (jE BK383.out 0).trans rfl; have hfz27_0 := jF BK383.out 0))
     refine bodyPost_ret (results_cell_row rfl _ _ gb383 52 #[.slice Ao24 t403.length co24] (0, 0) _ rfl (by (with_reducible repeat refine Xg ?_); refine jp (cs := #[.slice none 0 0]) ?_ 0 _ rfl; (with_reducible repeat refine Xg ?_); exact BK383.out) Try.underlying52 rfl (by kernel_rfl)) rfl ?_
     exact ⟨_, Re, by (with_reducible repeat apply Xq); exact jW (jg (p := ⟨gb383, 0, none⟩) (jm HO405.out BK383.out (by decide)) (fun _ hk => hk.2) (.slice Ao24 t403.length co24)) (fun _ hk => trivial), by repeat (first | (with_reducible first | exact HI0.out | apply Xs | apply qG | apply qH | refine qF ?_ NB0_383.out _ | refine qF ?_ NB0_399.out _) | exact HI0.out), by repeat (first | (with_reducible first | exact HB.out | apply Xa | refine jH ?_ (qE HI0.out) | refine jH ?_ GE383.out | refine jH ?_ GE399.out) | exact HB.out), by repeat (first | (with_reducible first | exact HK.out | apply jG | apply Xk | refine jT ?_ GW383.out _ | refine jT ?_ GW399.out _) | exact HK.out)⟩
   replace c21 := Bool.eq_false_iff.mpr c21
   subst c21
   have H1 : ((spec_pzOf.f kj5 0 0 t384).bind fun bt408 => (if t395.length < 5864062014805 then (spec_DrawHarderPuzzle_in.l0 kj5 t384 t384 (t384.length : Int) 0 s0_0 x1001_5 x1002_5 (t395 ++ [(⟨bt408.1, bt408.2.1, bt408.2.2⟩ : S58)])) else (none))) = some (r1, r2, r3) := by rw [if_neg (show ¬ (false = true) by decide)] at H; exact H
   clear H
   have H := H1
   clear H1
   replace H := jD H
   obtain ⟨⟨t408, t409, t410⟩, A280, H⟩ := H
   have A28 := jA A280
   clear A280
   replace H := Ic H; rcases H with ⟨c29, H⟩ | ⟨c29, H⟩
   · have LMc29 := jA c29
     clear c29
     obtain ⟨y411, hy411⟩ : ∃ y_ : List (S58), y_ = (t395 ++ [(⟨t408, t409, t410⟩ : S58)]) := ⟨_, rfl⟩
     replace H : (spec_DrawHarderPuzzle_in.l0 kj5 t384 t384 (t384.length : Int) 0 s0_0 x1001_5 x1002_5 y411) = some (r1, r2, r3) := by first | (rw [hy411]; with_reducible exact H) | (have H2_ := (Option.bind_some _ _).symm.trans H; rw [hy411]; with_reducible exact H2_) | (have H2_ := (Option.bind_some _ _).symm.trans H; with_reducible exact H2_) | with_reducible exact H | (rw [hy411]; exact H) | exact H
     have Ny411 := jA hy411
     clear hy411
     have H' := jA H
     clear H
     try go_wp2
     replace HO_4 := jA (Kd.R_drew HO_4.out); replace HO_400000 := jA (Kd.R_drew HO_400000.out); replace BK383 := jA (jR BK383.out); replace BK399 := jA (jR BK399.out); replace HI0 := jA (IsS102.drew HI0.out); replace HK := jA (keep_drew HK.out); replace HB := jA (jQ HB.out)
     refine start_ (n := 8) (S := fun w' => w'.cell? ⟨gb399, 0, none⟩ = some (.slice Ao14 t395.length co14)) (ds := [7]) #[false, false, false, false, false, false, false, false] (by kernel_rfl) rfl rfl ((jE BK399.out 0).trans rfl) (fun hHeld => ?_); refine with_tabW spec_DrawHarderPuzzle_in.tab6 spec_DrawHarderPuzzle_in.bits6 (fun HT_ HW_ => ?_)
     generalize wc.drew = w30 at HO_4 HO_400000 BK383 BK399 HI0 HK HB hHeld ⊢
     refine Pu 0 31 #[true, false, false, false, false, false, false, false] HT_.out ?_
     refine Pu 2 33 #[true, false, true, false, false, false, false, false] HT_.out ?_
     refine take_ (i := 1) (N := some 32) (v := ?_) (a' := ?_) #[true, true, true, false, false, false, false, false] rfl rfl (take_ofW HT_.out HW_.out (by kernel_rfl)) (fun _ _ _ h => h) (Or.inl ⟨by rfl, ?_⟩) hHeld ?_ ?_
     rotate_left
     · intro w' s0
       go_simp
       with_reducible rfl
     rotate_left
     · simp only [Act.put, List.setIfInBounds_toArray, List.set_cons_zero, List.set_cons_succ, i64_w, i32_w]
       rfl
     refine one_ (i := 3) (N := some 34) #[true, true, true, true, false, false, false, false] rfl rfl (one_of HT_.out (by kernel_rfl)) (by decide) (fun K hK => ?_)
     refine goes_ Try.func219 (by kernel_rfl) rfl #[.int .i64 0, .int .i64 0, .slice Ao11 t384.length co11] (by rfl) rfl rfl Ga ?_
     with_reducible refine (spec_pzOf.calls kj5 0 0 _ _ t384 t408 t409 t410 _ ?side1 ?side2 A28.out).mono ?_
     (case side1 => repeat (first | exact (Kd.R_reads' HO_4.out).2.2 | (with_reducible refine Xc ?_)))
     (case side2 => exact (Kd.R_reads' HO_4.out).2.1)
     rintro e w31 ⟨rfl, hb⟩
     refine ⟨_, rfl, ?_⟩
     replace HO_4 := jA (Kd.R_below (Rm HO_4.out) hb); replace HO_400000 := jA (Kd.R_below (Rm HO_400000.out) hb); replace BK383 := jA (jN (g := gb383) (o := .cells #[.slice none 0 0] 52 (0, 0)) (Bm BK383.out) hb); replace BK399 := jA (jN (g := gb399) (o := .cells #[.slice Ao14 t395.length co14] 52 (0, 0)) (Bm BK399.out) hb); replace HK := jA (jS (by repeat (first | (with_reducible first | exact HK.out | apply jG | apply Xk | refine jT ?_ GW383.out _ | refine jT ?_ GW399.out _) | exact HK.out)) (jb hb g none) (.inl rfl)); replace HB := jA (jB (by repeat (first | (with_reducible first | exact HB.out | apply Xa | refine jH ?_ (qE HI0.out) | refine jH ?_ GE383.out | refine jH ?_ GE399.out) | exact HB.out)) hb); replace HI0 := jA (qA (by repeat (first | (with_reducible first | exact HI0.out | apply Xs | apply qG | apply qH | refine qF ?_ NB0_383.out _ | refine qF ?_ NB0_399.out _) | exact HI0.out)) hb); (try clear hb); (try clear hb2); (try clear hk); (try clear hi)
     refine hK.out _ _ ((jE BK399.out 0).trans rfl) (fun hHeld => ?_)
     clear hK K
     refine norm_ (a' := ?_) ?_ ?_
     rotate_left
     · show Act.put _ (some 34) _ = _
       simp only [Act.put, List.setIfInBounds_toArray, List.set_cons_zero, List.set_cons_succ, i64_w, i32_w]
       rfl
     refine one_ (i := 4) (N := some 35) #[true, true, true, true, true, false, false, false] rfl rfl (one_of HT_.out (by kernel_rfl)) (by decide) (fun K hK => ?_)
     refine value_ (w1 := ?_) (v := ?_) (by rfl) rfl ?_ ?_
     rotate_left 2
     · go_simp
       constructor
       · rfl
       rfl
     refine hK.out _ _ ((jE (blk_alloc BK399.out _) 0).trans rfl) (fun hHeld => ?_)
     clear hK K
     refine norm_ (a' := ?_) ?_ ?_
     rotate_left
     · show Act.put _ (some 35) _ = _
       simp only [Act.put, List.setIfInBounds_toArray, List.set_cons_zero, List.set_cons_succ, i64_w, i32_w]
       rfl
     refine one_ (i := 5) (N := some 36) #[true, true, true, true, true, true, false, false] rfl rfl (one_of HT_.out (by kernel_rfl)) (by decide) (fun K hK => ?_)
     refine Kd.R_append_step k58 w0.heap.size (by rfl) (.tmp 32) (.tmp 35) 50 58 (.agg #[(.int .i64 0), (.int .i64 0), (.int .i64 0)]) 24 rfl Try.underlying50 info58 rfl (by decide) (by omega) (.slice Ao14 t395.length co14) t395 (⟨t408, t409, t410⟩ : S58) [.int .i64 t408, .int .i64 t409, .int .i64 t410] (fun _ => True) (fun _ => False) rfl rfl ?aP (fun _ hk => hk.elim) ?aF ?aO (jU _ _) ?aS ?aL ?_
     (case aP => exact k58_mkM _ _ _ (⟨t408, t409, t410⟩ : S58))
     (case aF => exact (fun _ _ => trivial))
     (case aO => exact (Rm HO_400000.out))
     (case aS => exact (je (w := w0) (g := g) (row := none) (by repeat (first | (with_reducible first | exact HK.out | apply jG | apply Xk | refine jT ?_ GW383.out _ | refine jT ?_ GW399.out _) | exact HK.out))))
     (case aL => have := LMc29.out; omega)
     intro v412 w32 ho hb hg hat
     rw [← Ny411.out] at ho
     have n0_ := jA (Kd.R_over' (Rm HO_4.out) (Kd.R_typed (Rm HO_400000.out)) (by decide) hg); have n1_ := jA (js (g := gb383) (o := .cells #[.slice none 0 0] 52 (0, 0)) (Bm BK383.out) hg (Kd.R_ne HO_400000.out BK383.out (by decide))); have n2_ := jA (js (g := gb399) (o := .cells #[.slice Ao14 t395.length co14] 52 (0, 0)) (Bm BK399.out) hg (Kd.R_ne HO_400000.out BK399.out (by decide))); have n3_ := jA (IsS102.grown (by repeat (first | (with_reducible first | exact HI0.out | apply Xs | apply qG | apply qH | refine qF ?_ NB0_383.out _ | refine qF ?_ NB0_399.out _) | exact HI0.out)) hg (IsS102.own_ne HI0.out HO_400000.out (by decide))); have n4_ := jA (below_weaken (by repeat (first | (with_reducible first | exact HB.out | apply Xa | refine jH ?_ (qE HI0.out) | refine jH ?_ GE383.out | refine jH ?_ GE399.out) | exact HB.out)) HL.out hb); have n5_ := jA (jS (by repeat (first | (with_reducible first | exact HK.out | apply jG | apply Xk | refine jT ?_ GW383.out _ | refine jT ?_ GW399.out _) | exact HK.out)) (KeepBut.of_grown hg g) (Kd.R_base2 HO_400000.out)); have n6_ := jA (ho); clear HO_4 BK383 BK399 HI0 HB HK HO_400000; have HO_4 := n0_; have BK383 := n1_; have BK399 := n2_; have HI0 := n3_; have HB := n4_; have HK := n5_; have HO413 := n6_; clear n0_ n1_ n2_ n3_ n4_ n5_ n6_ ho hb hg hat
     obtain ⟨Ao33, co33, eo33⟩ := jq HO413.out
     (first | subst eo33 | (injection eo33 with f1_ f2_ f3_; have f4_ := f1_.symm; have f5_ := f3_.symm; clear f1_ f2_ f3_; subst f4_; subst f5_))
     refine hK.out _ _ ((jE BK399.out 0).trans rfl) (fun hHeld => ?_)
     clear hK K
     refine norm_ (a' := ?_) ?_ ?_
     rotate_left
     · show Act.put _ (some 36) _ = _
       simp only [Act.put, List.setIfInBounds_toArray, List.set_cons_zero, List.set_cons_succ, i64_w, i32_w]
       rfl
     refine Pu 6 37 #[true, true, true, true, true, true, true, false] HT_.out ?_
     refine last_ (i := 7) (N := none) #[true, true, true, true, true, true, true, true] rfl rfl (one_of HT_.out (by kernel_rfl)) (by decide) (fun K hK => ?_)
     have hs34 : w32.cell? ⟨gb399, 0, none⟩ = some (.slice Ao14 t395.length co14) := (jE BK399.out 0).trans rfl
     have hfs34 := jF BK399.out 0
     have hns34_0 := NB383_399.out
     have hms34_0 := NB399_383.out
     refine skip_ (w1 := ?_) (by rfl) rfl ?_ ?_
     rotate_left
     · go_simp
       rfl
     refine hK.out _ _ ?_
     clear hK K
     refine done_ (done_of HT_.out (by kernel_rfl)) ?_
     try go_wp2
     go_loopg [40] kj5 (fun kq v40 w' => ∃ (x40_2 : Int) (x400000_2 : List (S58)) (u400000 : Value), v40 = .int .i64 x40_2 ∧ Aside0 (spec_DrawHarderPuzzle_in.l0 kq t384 t384 (t384.length : Int) x40_2 s0_0 x1001_5 x1002_5 x400000_2 = some (r1, r2, r3)) ∧ Aside0 (kq ≤ kj5) ∧ Aside0 (Kd.R (Kd.int .i64) 3 w' w0.heap.size (fun _ => True) (.slice Ao11 t384.length co11) t384) ∧ Aside0 (Kd.R (Kd.int .i64) 3 w' w0.heap.size (fun _ => True) (.slice Ao11 t384.length co11) t384) ∧ Aside0 (Kd.R k58 58 w' w0.heap.size (fun _ => True) u400000 x400000_2) ∧ Aside0 (w'.heap[gb383]? = some (.cells #[(.slice none 0 0)] 52 (0, 0))) ∧ Aside0 (w'.heap[gb399]? = some (.cells #[u400000] 52 (0, 0))) ∧ Aside0 (IsS102 w0 w' g s0_0 x1001_5 x1002_5) ∧ Aside0 (KeepBut w0 w' g none) ∧ Aside0 (Below w0.heap.size w0 w'))
     case atStart => exact ⟨(0), (y411), (.slice Ao33 y411.length co33), Rs, H', ⟨jX _⟩, ⟨by (with_reducible repeat apply Xq); exact jW (jg (p := ⟨gb399, 0, none⟩) (jm HO_4.out BK399.out (by decide)) (fun _ hk => hk.2) (.slice Ao33 y411.length co33)) (fun _ hk => trivial)⟩, ⟨by (with_reducible repeat apply Xq); exact jW (jg (p := ⟨gb399, 0, none⟩) (jm HO_4.out BK399.out (by decide)) (fun _ hk => hk.2) (.slice Ao33 y411.length co33)) (fun _ hk => trivial)⟩, ⟨by (with_reducible repeat apply Xq); exact jW (jg (p := ⟨gb399, 0, none⟩) (jm HO413.out BK399.out (by decide)) (fun _ hk => hk.2) (.slice Ao33 y411.length co33)) (fun _ hk => trivial)⟩, ⟨by (with_reducible repeat refine Xg ?_); refine jk ?_ NB383_399.out _; (with_reducible repeat refine Xg ?_); exact BK383.out⟩, ⟨by (with_reducible repeat refine Xg ?_); refine jp (cs := #[.slice Ao14 t395.length co14]) ?_ 0 _ rfl; (with_reducible repeat refine Xg ?_); exact BK399.out⟩, ⟨by repeat (first | (with_reducible first | exact HI0.out | apply Xs | apply qG | apply qH | refine qF ?_ NB0_383.out _ | refine qF ?_ NB0_399.out _) | exact HI0.out)⟩, ⟨by repeat (first | (with_reducible first | exact HK.out | apply jG | apply Xk | refine jT ?_ GW383.out _ | refine jT ?_ GW399.out _) | exact HK.out)⟩, ⟨by repeat (first | (with_reducible first | exact HB.out | apply Xa | refine jH ?_ (qE HI0.out) | refine jH ?_ GE383.out | refine jH ?_ GE399.out) | exact HB.out)⟩⟩
     case round =>
      clear H'
      try clear c21
      try clear c29
      try clear hcz17_0
      try clear hcz27_0
      try clear hfz17_0
      try clear hfz27_0
      obtain ⟨x40_2, x400000_2, u400000, rfl, HA, HK2, HO_4, HO_38, HO_400000, BK383, BK399, HI0, HK, HB⟩ := hrel
      cases gk with
      | zero => exact absurd HA.out (by simp [spec_DrawHarderPuzzle_in.l0])
      | succ k2 =>
       have H := HA.out
       clear HA
       simp only [spec_DrawHarderPuzzle_in.l0] at H
       replace H := Ic H; rcases H with ⟨c35, H⟩ | ⟨c35, H⟩
       · have c35b0 := jK c35
         clear c35
         replace H := Ip H; obtain ⟨c36, H⟩ := H
         have c36b0 := jK c36
         clear c36
         replace H := Ip H; obtain ⟨c37, H⟩ := H
         have c37b0 := jK c37
         clear c37
         replace H := Ic H; rcases H with ⟨c38, H⟩ | ⟨c38, H⟩
         · have c38b0 := jK c38
           have c38b1 : decide (x400000_2.length < 6) = true := jK (by omega)
           clear c38
           replace H := Ic H; rcases H with ⟨c39, H⟩ | ⟨c39, H⟩
           · have c39b0 : (x40_2 == 0) = true := beq_iff_eq.mpr c39
             have c39b1 := bne_eq_false_iff_eq.mpr c39
             clear c39
             replace H := jD H
             obtain ⟨⟨t415, t416, t417⟩, A400, H⟩ := H
             have A40 := jA A400
             clear A400
             replace H := Ip H; obtain ⟨c41, H⟩ := H
             have LMc41 := jA c41
             clear c41
             obtain ⟨y418, hy418⟩ : ∃ y_ : List (S58), y_ = (x400000_2 ++ [(⟨t415, t416, t417⟩ : S58)]) := ⟨_, rfl⟩
             replace H : (spec_DrawHarderPuzzle_in.l0 k2 t384 t384 (t384.length : Int) (wrap64 (x40_2 + 1)) s0_0 x1001_5 x1002_5 y418) = some (r1, r2, r3) := by first | (rw [hy418]; with_reducible exact H) | (have H2_ := (Option.bind_some _ _).symm.trans H; rw [hy418]; with_reducible exact H2_) | (have H2_ := (Option.bind_some _ _).symm.trans H; with_reducible exact H2_) | with_reducible exact H | (rw [hy418]; exact H) | exact H
             have Ny418 := jA hy418
             clear hy418
             have H' := jA H
             clear H
             obtain ⟨p414, q414, ad414, e414, hx414_0⟩ := Ai (Kd.R_reads' HO_38.out).2.2 x40_2
             cases e414
             have hnb42 := NB399_383.out
             have hnc42 := NB383_399.out
             have hnb43 := NB399_0.out
             have hnc43 := NB0_399.out
             have hcz44_0 : wr.cell? ⟨gb399, 0, none⟩ = some (u400000) := (jE BK399.out 0).trans rfl
             have hfz44_0 := jF BK399.out 0
             obtain ⟨Ao45, co45, eo45⟩ := jq HO_400000.out
             subst eo45
             try go_wp2
             replace HO_4 := jA (Kd.R_drew HO_4.out); replace HO_38 := jA (Kd.R_drew HO_38.out); replace HO_400000 := jA (Kd.R_drew HO_400000.out); replace BK383 := jA (jR BK383.out); replace BK399 := jA (jR BK399.out); replace HI0 := jA (IsS102.drew HI0.out); replace HK := jA (keep_drew HK.out); replace HB := jA (jQ HB.out)
             refine start_ (n := 9) (S := fun w' => w'.cell? ⟨gb399, 0, none⟩ = some (.slice Ao45 x400000_2.length co45)) (ds := [8]) #[false, false, false, false, false, false, false, false, false] (by kernel_rfl) rfl rfl ((jE BK399.out 0).trans rfl) (fun hHeld => ?_); refine with_tabW spec_DrawHarderPuzzle_in.tab11 spec_DrawHarderPuzzle_in.bits11 (fun HT_ HW_ => ?_)
             generalize wr.drew = w46 at HO_4 HO_38 HO_400000 BK383 BK399 HI0 HK HB hHeld ⊢
             refine Pu 0 62 #[true, false, false, false, false, false, false, false, false] HT_.out ?_
             refine Pu 2 64 #[true, false, true, false, false, false, false, false, false] HT_.out ?_
             refine Pu 3 65 #[true, false, true, true, false, false, false, false, false] HT_.out ?_
             refine take_ (i := 1) (N := some 63) (v := ?_) (a' := ?_) #[true, true, true, true, false, false, false, false, false] rfl rfl (take_ofW HT_.out HW_.out (by kernel_rfl)) (fun _ _ _ h => h) (Or.inl ⟨by rfl, ?_⟩) hHeld ?_ ?_
             rotate_left
             · intro w' s0
               go_simp
               with_reducible rfl
             rotate_left
             · simp only [Act.put, List.setIfInBounds_toArray, List.set_cons_zero, List.set_cons_succ, i64_w, i32_w]
               rfl
             refine one_ (i := 4) (N := some 66) #[true, true, true, true, true, false, false, false, false] rfl rfl (one_of HT_.out (by kernel_rfl)) (by decide) (fun K hK => ?_)
             refine goes_ Try.func219 (by kernel_rfl) rfl #[.int .i64 5, .int .i64 (rd t384 x40_2), .slice (some ad414) t384.length co11] (by rfl) rfl rfl Ga ?_
             with_reducible refine (spec_pzOf.calls k2 5 (rd t384 x40_2) _ _ t384 t415 t416 t417 _ ?side1 ?side2 A40.out).mono ?_
             (case side1 => repeat (first | exact (Kd.R_reads' HO_4.out).2.2 | (with_reducible refine Xc ?_)))
             (case side2 => exact (Kd.R_reads' HO_4.out).2.1)
             rintro e w47 ⟨rfl, hb⟩
             refine ⟨_, rfl, ?_⟩
             replace HO_4 := jA (Kd.R_below (Rm HO_4.out) hb); replace HO_38 := jA (Kd.R_below (Rm HO_38.out) hb); replace HO_400000 := jA (Kd.R_below (Rm HO_400000.out) hb); replace BK383 := jA (jN (g := gb383) (o := .cells #[.slice none 0 0] 52 (0, 0)) (Bm BK383.out) hb); replace BK399 := jA (jN (g := gb399) (o := .cells #[.slice Ao45 x400000_2.length co45] 52 (0, 0)) (Bm BK399.out) hb); replace HK := jA (jS (by repeat (first | (with_reducible first | exact HK.out | apply jG | apply Xk | refine jT ?_ GW383.out _ | refine jT ?_ GW399.out _) | exact HK.out)) (jb hb g none) (.inl rfl)); replace HB := jA (jB (by repeat (first | (with_reducible first | exact HB.out | apply Xa | refine jH ?_ (qE HI0.out) | refine jH ?_ GE383.out | refine jH ?_ GE399.out) | exact HB.out)) hb); replace HI0 := jA (qA (by repeat (first | (with_reducible first | exact HI0.out | apply Xs | apply qG | apply qH | refine qF ?_ NB0_383.out _ | refine qF ?_ NB0_399.out _) | exact HI0.out)) hb); (try clear hb); (try clear hb2); (try clear hk); (try clear hi)
             refine hK.out _ _ ((jE BK399.out 0).trans rfl) (fun hHeld => ?_)
             clear hK K
             refine norm_ (a' := ?_) ?_ ?_
             rotate_left
             · show Act.put _ (some 66) _ = _
               simp only [Act.put, List.setIfInBounds_toArray, List.set_cons_zero, List.set_cons_succ, i64_w, i32_w]
               rfl
             refine one_ (i := 5) (N := some 67) #[true, true, true, true, true, true, false, false, false] rfl rfl (one_of HT_.out (by kernel_rfl)) (by decide) (fun K hK => ?_)
             refine value_ (w1 := ?_) (v := ?_) (by rfl) rfl ?_ ?_
             rotate_left 2
             · go_simp
               constructor
               · rfl
               rfl
             refine hK.out _ _ ((jE (blk_alloc BK399.out _) 0).trans rfl) (fun hHeld => ?_)
             clear hK K
             refine norm_ (a' := ?_) ?_ ?_
             rotate_left
             · show Act.put _ (some 67) _ = _
               simp only [Act.put, List.setIfInBounds_toArray, List.set_cons_zero, List.set_cons_succ, i64_w, i32_w]
               rfl
             refine one_ (i := 6) (N := some 68) #[true, true, true, true, true, true, true, false, false] rfl rfl (one_of HT_.out (by kernel_rfl)) (by decide) (fun K hK => ?_)
             refine Kd.R_append_step k58 w0.heap.size (by rfl) (.tmp 63) (.tmp 67) 50 58 (.agg #[(.int .i64 0), (.int .i64 0), (.int .i64 0)]) 24 rfl Try.underlying50 info58 rfl (by decide) (by omega) (.slice Ao45 x400000_2.length co45) x400000_2 (⟨t415, t416, t417⟩ : S58) [.int .i64 t415, .int .i64 t416, .int .i64 t417] (fun _ => True) (fun _ => False) rfl rfl ?aP (fun _ hk => hk.elim) ?aF ?aO (jU _ _) ?aS ?aL ?_
             (case aP => exact k58_mkM _ _ _ (⟨t415, t416, t417⟩ : S58))
             (case aF => exact (fun _ _ => trivial))
             (case aO => exact (Rm HO_400000.out))
             (case aS => exact (je (w := w0) (g := g) (row := none) (by repeat (first | (with_reducible first | exact HK.out | apply jG | apply Xk | refine jT ?_ GW383.out _ | refine jT ?_ GW399.out _) | exact HK.out))))
             (case aL => have := LMc41.out; omega)
             intro v419 w48 ho hb hg hat
             rw [← Ny418.out] at ho
             have n0_ := jA (Kd.R_over' (Rm HO_4.out) (Kd.R_typed (Rm HO_400000.out)) (by decide) hg); have n1_ := jA (Kd.R_over' (Rm HO_38.out) (Kd.R_typed (Rm HO_400000.out)) (by decide) hg); have n2_ := jA (js (g := gb383) (o := .cells #[.slice none 0 0] 52 (0, 0)) (Bm BK383.out) hg (Kd.R_ne HO_400000.out BK383.out (by decide))); have n3_ := jA (js (g := gb399) (o := .cells #[.slice Ao45 x400000_2.length co45] 52 (0, 0)) (Bm BK399.out) hg (Kd.R_ne HO_400000.out BK399.out (by decide))); have n4_ := jA (IsS102.grown (by repeat (first | (with_reducible first | exact HI0.out | apply Xs | apply qG | apply qH | refine qF ?_ NB0_383.out _ | refine qF ?_ NB0_399.out _) | exact HI0.out)) hg (IsS102.own_ne HI0.out HO_400000.out (by decide))); have n5_ := jA (below_weaken (by repeat (first | (with_reducible first | exact HB.out | apply Xa | refine jH ?_ (qE HI0.out) | refine jH ?_ GE383.out | refine jH ?_ GE399.out) | exact HB.out)) HL.out hb); have n6_ := jA (jS (by repeat (first | (with_reducible first | exact HK.out | apply jG | apply Xk | refine jT ?_ GW383.out _ | refine jT ?_ GW399.out _) | exact HK.out)) (KeepBut.of_grown hg g) (Kd.R_base2 HO_400000.out)); have n7_ := jA (ho); clear HO_4 HO_38 BK383 BK399 HI0 HB HK HO_400000; have HO_4 := n0_; have HO_38 := n1_; have BK383 := n2_; have BK399 := n3_; have HI0 := n4_; have HB := n5_; have HK := n6_; have HO420 := n7_; clear n0_ n1_ n2_ n3_ n4_ n5_ n6_ n7_ ho hb hg hat
             obtain ⟨Ao49, co49, eo49⟩ := jq HO420.out
             (first | subst eo49 | (injection eo49 with f1_ f2_ f3_; have f4_ := f1_.symm; have f5_ := f3_.symm; clear f1_ f2_ f3_; subst f4_; subst f5_))
             refine hK.out _ _ ((jE BK399.out 0).trans rfl) (fun hHeld => ?_)
             clear hK K
             refine norm_ (a' := ?_) ?_ ?_
             rotate_left
             · show Act.put _ (some 68) _ = _
               simp only [Act.put, List.setIfInBounds_toArray, List.set_cons_zero, List.set_cons_succ, i64_w, i32_w]
               rfl
             refine Pu 7 69 #[true, true, true, true, true, true, true, true, false] HT_.out ?_
             refine last_ (i := 8) (N := none) #[true, true, true, true, true, true, true, true, true] rfl rfl (one_of HT_.out (by kernel_rfl)) (by decide) (fun K hK => ?_)
             have hs50 : w48.cell? ⟨gb399, 0, none⟩ = some (.slice Ao45 x400000_2.length co45) := (jE BK399.out 0).trans rfl
             have hfs50 := jF BK399.out 0
             have hns50_0 := NB383_399.out
             have hms50_0 := NB399_383.out
             refine skip_ (w1 := ?_) (by rfl) rfl ?_ ?_
             rotate_left
             · go_simp
               rfl
             refine hK.out _ _ ?_
             clear hK K
             refine done_ (done_of HT_.out (by kernel_rfl)) ?_
             try go_wp2
             go_roundg k2
             case measure => have := HJ5.out; have := HK2.out; omega
             case rel => exact ⟨(wrap64 (x40_2 + 1)), (y418), (.slice Ao49 y418.length co49), Rs, H', ⟨by have := HJ5.out; have := HK2.out; omega⟩, ⟨by (with_reducible repeat apply Xq); exact jW (jg (p := ⟨gb399, 0, none⟩) (jm HO_4.out BK399.out (by decide)) (fun _ hk => hk.2) (.slice Ao49 y418.length co49)) (fun _ hk => trivial)⟩, ⟨by (with_reducible repeat apply Xq); exact jW (jg (p := ⟨gb399, 0, none⟩) (jm HO_38.out BK399.out (by decide)) (fun _ hk => hk.2) (.slice Ao49 y418.length co49)) (fun _ hk => trivial)⟩, ⟨by (with_reducible repeat apply Xq); exact jW (jg (p := ⟨gb399, 0, none⟩) (jm HO420.out BK399.out (by decide)) (fun _ hk => hk.2) (.slice Ao49 y418.length co49)) (fun _ hk => trivial)⟩, ⟨by (with_reducible repeat refine Xg ?_); refine jk ?_ NB383_399.out _; (with_reducible repeat refine Xg ?_); exact BK383.out⟩, ⟨by (with_reducible repeat refine Xg ?_); refine jp (cs := #[.slice Ao45 x400000_2.length co45]) ?_ 0 _ rfl; (with_reducible repeat refine Xg ?_); exact BK399.out⟩, ⟨by repeat (first | (with_reducible first | exact HI0.out | apply Xs | apply qG | apply qH | refine qF ?_ NB0_383.out _ | refine qF ?_ NB0_399.out _) | exact HI0.out)⟩, ⟨by repeat (first | (with_reducible first | exact HK.out | apply jG | apply Xk | refine jT ?_ GW383.out _ | refine jT ?_ GW399.out _) | exact HK.out)⟩, ⟨by repeat (first | (with_reducible first | exact HB.out | apply Xa | refine jH ?_ (qE HI0.out) | refine jH ?_ GE383.out | refine jH ?_ GE399.out) | exact HB.out)⟩⟩
           have c39b0 : (x40_2 == 0) = false := beq_eq_false_iff_ne.mpr c39
           have c39b1 := bne_iff_ne.mpr c39
           obtain ⟨ji51, hji51⟩ : ∃ j_ : Int, (wrap64 (x40_2 - 1)) = j_ := ⟨_, rfl⟩
           replace H : (if 0 ≤ (ji51) then (if (ji51) < (t384.length : Int) then (if (rd t384 (ji51)) = (rd t384 x40_2) then (spec_DrawHarderPuzzle_in.l0 k2 t384 t384 (t384.length : Int) (wrap64 (x40_2 + 1)) s0_0 x1001_5 x1002_5 x400000_2) else ((spec_pzOf.f k2 5 (rd t384 x40_2) t384).bind fun bt422 => (if x400000_2.length < 5864062014805 then (spec_DrawHarderPuzzle_in.l0 k2 t384 t384 (t384.length : Int) (wrap64 (x40_2 + 1)) s0_0 x1001_5 x1002_5 (x400000_2 ++ [(⟨bt422.1, bt422.2.1, bt422.2.2⟩ : S58)])) else (none)))) else (none)) else (none)) = some (r1, r2, r3) := by first | (rw [hji51] at H; exact H) | (simp only [hji51] at H ⊢; exact H)
           have hji51w : (IntKind.i64.wrap (x40_2 - 1)) = ji51 := (i64_w _).trans hji51
           replace H := Ip H; obtain ⟨c52, H⟩ := H
           have c52b0 := jK c52
           clear c52
           replace H := Ip H; obtain ⟨c53, H⟩ := H
           have c53b0 := jK c53
           clear c53
           replace H := Ic H; rcases H with ⟨c54, H⟩ | ⟨c54, H⟩
           · have c54b0 : ((rd t384 (ji51)) == (rd t384 x40_2)) = true := beq_iff_eq.mpr c54
             have c54b1 := bne_eq_false_iff_eq.mpr c54
             clear c54
             have H' := jA H
             clear H
             obtain ⟨p414, q414, ad414, e414, hx414_0⟩ := Ai (Kd.R_reads' HO_38.out).2.2 x40_2
             cases e414
             have hnb55 := NB399_383.out
             have hnc55 := NB383_399.out
             have hnb56 := NB399_0.out
             have hnc56 := NB0_399.out
             have hcz57_0 : wr.cell? ⟨gb399, 0, none⟩ = some (u400000) := (jE BK399.out 0).trans rfl
             have hfz57_0 := jF BK399.out 0
             obtain ⟨Ao58, co58, eo58⟩ := jq HO_400000.out
             subst eo58
             have p421 : 0 ≤ ((ji51) : Int) := Oa
             have q421 : (ji51) < (t384.length : Int) := Oa
             obtain ⟨ad421, e421, hx421_0⟩ := Kd.at_int (Kd.R_reads' HO_4.out).2.2 (ji51) p421 q421
             obtain rfl : ad414 = ad421 := (by injection e421)
             replace p421 := eq_true p421
             replace q421 := eq_true q421
             go_wp2
             go_roundg k2
             case measure => have := HJ5.out; have := HK2.out; omega
             case rel => exact ⟨(wrap64 (x40_2 + 1)), (x400000_2), (.slice Ao58 x400000_2.length co58), Rs, H', ⟨by have := HJ5.out; have := HK2.out; omega⟩, ⟨Rm HO_4.out⟩, ⟨Rm HO_38.out⟩, ⟨Rm HO_400000.out⟩, ⟨Bm BK383.out⟩, ⟨Bm BK399.out⟩, ⟨by repeat (first | (with_reducible first | exact HI0.out | apply Xs | apply qG | apply qH | refine qF ?_ NB0_383.out _ | refine qF ?_ NB0_399.out _) | exact HI0.out)⟩, ⟨by repeat (first | (with_reducible first | exact HK.out | apply jG | apply Xk | refine jT ?_ GW383.out _ | refine jT ?_ GW399.out _) | exact HK.out)⟩, ⟨by repeat (first | (with_reducible first | exact HB.out | apply Xa | refine jH ?_ (qE HI0.out) | refine jH ?_ GE383.out | refine jH ?_ GE399.out) | exact HB.out)⟩⟩
           have c54b0 : ((rd t384 (ji51)) == (rd t384 x40_2)) = false := beq_eq_false_iff_ne.mpr c54
           have c54b1 := bne_iff_ne.mpr c54
           replace H := jD H
           obtain ⟨⟨t422, t423, t424⟩, A590, H⟩ := H
           have A59 := jA A590
           clear A590
           replace H := Ip H; obtain ⟨c60, H⟩ := H
           have LMc60 := jA c60
           clear c60
           obtain ⟨y425, hy425⟩ : ∃ y_ : List (S58), y_ = (x400000_2 ++ [(⟨t422, t423, t424⟩ : S58)]) := ⟨_, rfl⟩
           replace H : (spec_DrawHarderPuzzle_in.l0 k2 t384 t384 (t384.length : Int) (wrap64 (x40_2 + 1)) s0_0 x1001_5 x1002_5 y425) = some (r1, r2, r3) := by first | (rw [hy425]; with_reducible exact H) | (have H2_ := (Option.bind_some _ _).symm.trans H; rw [hy425]; with_reducible exact H2_) | (have H2_ := (Option.bind_some _ _).symm.trans H; with_reducible exact H2_) | with_reducible exact H | (rw [hy425]; exact H) | exact H
           have Ny425 := jA hy425
           clear hy425
           have H' := jA H
           clear H
           obtain ⟨p414, q414, ad414, e414, hx414_0⟩ := Ai (Kd.R_reads' HO_38.out).2.2 x40_2
           cases e414
           have hnb61 := NB399_383.out
           have hnc61 := NB383_399.out
           have hnb62 := NB399_0.out
           have hnc62 := NB0_399.out
           have hcz63_0 : wr.cell? ⟨gb399, 0, none⟩ = some (u400000) := (jE BK399.out 0).trans rfl
           have hfz63_0 := jF BK399.out 0
           obtain ⟨Ao64, co64, eo64⟩ := jq HO_400000.out
           subst eo64
           have p421 : 0 ≤ ((ji51) : Int) := Oa
           have q421 : (ji51) < (t384.length : Int) := Oa
           obtain ⟨ad421, e421, hx421_0⟩ := Kd.at_int (Kd.R_reads' HO_4.out).2.2 (ji51) p421 q421
           obtain rfl : ad414 = ad421 := (by injection e421)
           replace p421 := eq_true p421
           replace q421 := eq_true q421
           try go_wp2
           replace HO_4 := jA (Kd.R_drew HO_4.out); replace HO_38 := jA (Kd.R_drew HO_38.out); replace HO_400000 := jA (Kd.R_drew HO_400000.out); replace BK383 := jA (jR BK383.out); replace BK399 := jA (jR BK399.out); replace HI0 := jA (IsS102.drew HI0.out); replace HK := jA (keep_drew HK.out); replace HB := jA (jQ HB.out)
           refine start_ (n := 9) (S := fun w' => w'.cell? ⟨gb399, 0, none⟩ = some (.slice Ao64 x400000_2.length co64)) (ds := [8]) #[false, false, false, false, false, false, false, false, false] (by kernel_rfl) rfl rfl ((jE BK399.out 0).trans rfl) (fun hHeld => ?_); refine with_tabW spec_DrawHarderPuzzle_in.tab11 spec_DrawHarderPuzzle_in.bits11 (fun HT_ HW_ => ?_)
           generalize wr.drew = w65 at HO_4 HO_38 HO_400000 BK383 BK399 HI0 HK HB hHeld ⊢
           refine Pu 0 62 #[true, false, false, false, false, false, false, false, false] HT_.out ?_
           refine Pu 2 64 #[true, false, true, false, false, false, false, false, false] HT_.out ?_
           refine Pu 3 65 #[true, false, true, true, false, false, false, false, false] HT_.out ?_
           refine take_ (i := 1) (N := some 63) (v := ?_) (a' := ?_) #[true, true, true, true, false, false, false, false, false] rfl rfl (take_ofW HT_.out HW_.out (by kernel_rfl)) (fun _ _ _ h => h) (Or.inl ⟨by rfl, ?_⟩) hHeld ?_ ?_
           rotate_left
           · intro w' s0
             go_simp
             with_reducible rfl
           rotate_left
           · simp only [Act.put, List.setIfInBounds_toArray, List.set_cons_zero, List.set_cons_succ, i64_w, i32_w]
             rfl
           refine one_ (i := 4) (N := some 66) #[true, true, true, true, true, false, false, false, false] rfl rfl (one_of HT_.out (by kernel_rfl)) (by decide) (fun K hK => ?_)
           refine goes_ Try.func219 (by kernel_rfl) rfl #[.int .i64 5, .int .i64 (rd t384 x40_2), .slice (some ad414) t384.length co11] (by rfl) rfl rfl Ga ?_
           with_reducible refine (spec_pzOf.calls k2 5 (rd t384 x40_2) _ _ t384 t422 t423 t424 _ ?side1 ?side2 A59.out).mono ?_
           (case side1 => repeat (first | exact (Kd.R_reads' HO_4.out).2.2 | (with_reducible refine Xc ?_)))
           (case side2 => exact (Kd.R_reads' HO_4.out).2.1)
           rintro e w66 ⟨rfl, hb⟩
           refine ⟨_, rfl, ?_⟩
           replace HO_4 := jA (Kd.R_below (Rm HO_4.out) hb); replace HO_38 := jA (Kd.R_below (Rm HO_38.out) hb); replace HO_400000 := jA (Kd.R_below (Rm HO_400000.out) hb); replace BK383 := jA (jN (g := gb383) (o := .cells #[.slice none 0 0] 52 (0, 0)) (Bm BK383.out) hb); replace BK399 := jA (jN (g := gb399) (o := .cells #[.slice Ao64 x400000_2.length co64] 52 (0, 0)) (Bm BK399.out) hb); replace HK := jA (jS (by repeat (first | (with_reducible first | exact HK.out | apply jG | apply Xk | refine jT ?_ GW383.out _ | refine jT ?_ GW399.out _) | exact HK.out)) (jb hb g none) (.inl rfl)); replace HB := jA (jB (by repeat (first | (with_reducible first | exact HB.out | apply Xa | refine jH ?_ (qE HI0.out) | refine jH ?_ GE383.out | refine jH ?_ GE399.out) | exact HB.out)) hb); replace HI0 := jA (qA (by repeat (first | (with_reducible first | exact HI0.out | apply Xs | apply qG | apply qH | refine qF ?_ NB0_383.out _ | refine qF ?_ NB0_399.out _) | exact HI0.out)) hb); (try clear hb); (try clear hb2); (try clear hk); (try clear hi)
           refine hK.out _ _ ((jE BK399.out 0).trans rfl) (fun hHeld => ?_)
           clear hK K
           refine norm_ (a' := ?_) ?_ ?_
           rotate_left
           · show Act.put _ (some 66) _ = _
             simp only [Act.put, List.setIfInBounds_toArray, List.set_cons_zero, List.set_cons_succ, i64_w, i32_w]
             rfl
           refine one_ (i := 5) (N := some 67) #[true, true, true, true, true, true, false, false, false] rfl rfl (one_of HT_.out (by kernel_rfl)) (by decide) (fun K hK => ?_)
           refine value_ (w1 := ?_) (v := ?_) (by rfl) rfl ?_ ?_
           rotate_left 2
           · go_simp
             constructor
             · rfl
             rfl
           refine hK.out _ _ ((jE (blk_alloc BK399.out _) 0).trans rfl) (fun hHeld => ?_)
           clear hK K
           refine norm_ (a' := ?_) ?_ ?_
           rotate_left
           · show Act.put _ (some 67) _ = _
             simp only [Act.put, List.setIfInBounds_toArray, List.set_cons_zero, List.set_cons_succ, i64_w, i32_w]
             rfl
           refine one_ (i := 6) (N := some 68) #[true, true, true, true, true, true, true, false, false] rfl rfl (one_of HT_.out (by kernel_rfl)) (by decide) (fun K hK => ?_)
           refine Kd.R_append_step k58 w0.heap.size (by rfl) (.tmp 63) (.tmp 67) 50 58 (.agg #[(.int .i64 0), (.int .i64 0), (.int .i64 0)]) 24 rfl Try.underlying50 info58 rfl (by decide) (by omega) (.slice Ao64 x400000_2.length co64) x400000_2 (⟨t422, t423, t424⟩ : S58) [.int .i64 t422, .int .i64 t423, .int .i64 t424] (fun _ => True) (fun _ => False) rfl rfl ?aP (fun _ hk => hk.elim) ?aF ?aO (jU _ _) ?aS ?aL ?_
           (case aP => exact k58_mkM _ _ _ (⟨t422, t423, t424⟩ : S58))
           (case aF => exact (fun _ _ => trivial))
           (case aO => exact (Rm HO_400000.out))
           (case aS => exact (je (w := w0) (g := g) (row := none) (by repeat (first | (with_reducible first | exact HK.out | apply jG | apply Xk | refine jT ?_ GW383.out _ | refine jT ?_ GW399.out _) | exact HK.out))))
           (case aL => have := LMc60.out; omega)
           intro v426 w67 ho hb hg hat
           rw [← Ny425.out] at ho
           have n0_ := jA (Kd.R_over' (Rm HO_4.out) (Kd.R_typed (Rm HO_400000.out)) (by decide) hg); have n1_ := jA (Kd.R_over' (Rm HO_38.out) (Kd.R_typed (Rm HO_400000.out)) (by decide) hg); have n2_ := jA (js (g := gb383) (o := .cells #[.slice none 0 0] 52 (0, 0)) (Bm BK383.out) hg (Kd.R_ne HO_400000.out BK383.out (by decide))); have n3_ := jA (js (g := gb399) (o := .cells #[.slice Ao64 x400000_2.length co64] 52 (0, 0)) (Bm BK399.out) hg (Kd.R_ne HO_400000.out BK399.out (by decide))); have n4_ := jA (IsS102.grown (by repeat (first | (with_reducible first | exact HI0.out | apply Xs | apply qG | apply qH | refine qF ?_ NB0_383.out _ | refine qF ?_ NB0_399.out _) | exact HI0.out)) hg (IsS102.own_ne HI0.out HO_400000.out (by decide))); have n5_ := jA (below_weaken (by repeat (first | (with_reducible first | exact HB.out | apply Xa | refine jH ?_ (qE HI0.out) | refine jH ?_ GE383.out | refine jH ?_ GE399.out) | exact HB.out)) HL.out hb); have n6_ := jA (jS (by repeat (first | (with_reducible first | exact HK.out | apply jG | apply Xk | refine jT ?_ GW383.out _ | refine jT ?_ GW399.out _) | exact HK.out)) (KeepBut.of_grown hg g) (Kd.R_base2 HO_400000.out)); have n7_ := jA (ho); clear HO_4 HO_38 BK383 BK399 HI0 HB HK HO_400000; have HO_4 := n0_; have HO_38 := n1_; have BK383 := n2_; have BK399 := n3_; have HI0 := n4_; have HB := n5_; have HK := n6_; have HO427 := n7_; clear n0_ n1_ n2_ n3_ n4_ n5_ n6_ n7_ ho hb hg hat
           obtain ⟨Ao68, co68, eo68⟩ := jq HO427.out
           (first | subst eo68 | (injection eo68 with f1_ f2_ f3_; have f4_ := f1_.symm; have f5_ := f3_.symm; clear f1_ f2_ f3_; subst f4_; subst f5_))
           refine hK.out _ _ ((jE BK399.out 0).trans rfl) (fun hHeld => ?_)
           clear hK K
           refine norm_ (a' := ?_) ?_ ?_
           rotate_left
           · show Act.put _ (some 68) _ = _
             simp only [Act.put, List.setIfInBounds_toArray, List.set_cons_zero, List.set_cons_succ, i64_w, i32_w]
             rfl
           refine Pu 7 69 #[true, true, true, true, true, true, true, true, false] HT_.out ?_
           refine last_ (i := 8) (N := none) #[true, true, true, true, true, true, true, true, true] rfl rfl (one_of HT_.out (by kernel_rfl)) (by decide) (fun K hK => ?_)
           have hs69 : w67.cell? ⟨gb399, 0, none⟩ = some (.slice Ao64 x400000_2.length co64) := (jE BK399.out 0).trans rfl
           have hfs69 := jF BK399.out 0
           have hns69_0 := NB383_399.out
           have hms69_0 := NB399_383.out
           refine skip_ (w1 := ?_) (by rfl) rfl ?_ ?_
           rotate_left
           · go_simp
             rfl
           refine hK.out _ _ ?_
           clear hK K
           refine done_ (done_of HT_.out (by kernel_rfl)) ?_
           try go_wp2
           go_roundg k2
           case measure => have := HJ5.out; have := HK2.out; omega
           case rel => exact ⟨(wrap64 (x40_2 + 1)), (y425), (.slice Ao68 y425.length co68), Rs, H', ⟨by have := HJ5.out; have := HK2.out; omega⟩, ⟨by (with_reducible repeat apply Xq); exact jW (jg (p := ⟨gb399, 0, none⟩) (jm HO_4.out BK399.out (by decide)) (fun _ hk => hk.2) (.slice Ao68 y425.length co68)) (fun _ hk => trivial)⟩, ⟨by (with_reducible repeat apply Xq); exact jW (jg (p := ⟨gb399, 0, none⟩) (jm HO_38.out BK399.out (by decide)) (fun _ hk => hk.2) (.slice Ao68 y425.length co68)) (fun _ hk => trivial)⟩, ⟨by (with_reducible repeat apply Xq); exact jW (jg (p := ⟨gb399, 0, none⟩) (jm HO427.out BK399.out (by decide)) (fun _ hk => hk.2) (.slice Ao68 y425.length co68)) (fun _ hk => trivial)⟩, ⟨by (with_reducible repeat refine Xg ?_); refine jk ?_ NB383_399.out _; (with_reducible repeat refine Xg ?_); exact BK383.out⟩, ⟨by (with_reducible repeat refine Xg ?_); refine jp (cs := #[.slice Ao64 x400000_2.length co64]) ?_ 0 _ rfl; (with_reducible repeat refine Xg ?_); exact BK399.out⟩, ⟨by repeat (first | (with_reducible first | exact HI0.out | apply Xs | apply qG | apply qH | refine qF ?_ NB0_383.out _ | refine qF ?_ NB0_399.out _) | exact HI0.out)⟩, ⟨by repeat (first | (with_reducible first | exact HK.out | apply jG | apply Xk | refine jT ?_ GW383.out _ | refine jT ?_ GW399.out _) | exact HK.out)⟩, ⟨by repeat (first | (with_reducible first | exact HB.out | apply Xa | refine jH ?_ (qE HI0.out) | refine jH ?_ GE383.out | refine jH ?_ GE399.out) | exact HB.out)⟩⟩
         have c38b0 := jV c38
         have c38b1 : decide (x400000_2.length < 6) = false := jV (by omega)
         clear c38
         have H' := jA H
         clear H
         obtain ⟨p414, q414, ad414, e414, hx414_0⟩ := Ai (Kd.R_reads' HO_38.out).2.2 x40_2
         cases e414
         have hnb70 := NB399_383.out
         have hnc70 := NB383_399.out
         have hnb71 := NB399_0.out
         have hnc71 := NB0_399.out
         have hcz72_0 : wr.cell? ⟨gb399, 0, none⟩ = some (u400000) := (jE BK399.out 0).trans rfl
         have hfz72_0 := jF BK399.out 0
         obtain ⟨Ao73, co73, eo73⟩ := jq HO_400000.out
         subst eo73
         go_wp2
         go_roundg k2
         case measure => have := HJ5.out; have := HK2.out; omega
         case rel => exact ⟨(wrap64 (x40_2 + 1)), (x400000_2), (.slice Ao73 x400000_2.length co73), Rs, H', ⟨by have := HJ5.out; have := HK2.out; omega⟩, ⟨Rm HO_4.out⟩, ⟨Rm HO_38.out⟩, ⟨Rm HO_400000.out⟩, ⟨Bm BK383.out⟩, ⟨Bm BK399.out⟩, ⟨by repeat (first | (with_reducible first | exact HI0.out | apply Xs | apply qG | apply qH | refine qF ?_ NB0_383.out _ | refine qF ?_ NB0_399.out _) | exact HI0.out)⟩, ⟨by repeat (first | (with_reducible first | exact HK.out | apply jG | apply Xk | refine jT ?_ GW383.out _ | refine jT ?_ GW399.out _) | exact HK.out)⟩, ⟨by repeat (first | (with_reducible first | exact HB.out | apply Xa | refine jH ?_ (qE HI0.out) | refine jH ?_ GE383.out | refine jH ?_ GE399.out) | exact HB.out)⟩⟩
       have c35b0 := jV c35
       clear c35
       simp only [Option.some.injEq, Prod.mk.injEq] at H
       obtain ⟨rfl, rfl, rfl⟩ := H
       have hnb74 := NB399_383.out
       have hnc74 := NB383_399.out
       have hnb75 := NB399_0.out
       have hnc75 := NB0_399.out
       have hcz76_0 : wr.cell? ⟨gb399, 0, none⟩ = some (u400000) := (jE BK399.out 0).trans rfl
       have hfz76_0 := jF BK399.out 0
       obtain ⟨Ao77, co77, eo77⟩ := jq HO_400000.out
       subst eo77
       have hnb78 := NB383_0.out
       have hnc78 := NB0_383.out
       have hcz79_0 : wr.cell? ⟨gb383, 0, none⟩ = some (.slice none 0 0) := (jE BK383.out 0).trans rfl
       have hfz79_0 := jF BK383.out 0
       go_wp2
       refine bodyPost_ret (results_cell_row rfl _ _ gb383 52 #[.slice Ao77 x400000_2.length co77] (0, 0) _ rfl (by (with_reducible repeat refine Xg ?_); refine jp (cs := #[.slice none 0 0]) ?_ 0 _ rfl; (with_reducible repeat refine Xg ?_); exact BK383.out) Try.underlying52 rfl (by kernel_rfl)) rfl ?_
       exact ⟨_, Re, by (with_reducible repeat apply Xq); exact jW (jg (p := ⟨gb383, 0, none⟩) (jm HO_400000.out BK383.out (by decide)) (fun _ hk => hk.2) (.slice Ao77 x400000_2.length co77)) (fun _ hk => trivial), by repeat (first | (with_reducible first | exact HI0.out | apply Xs | apply qG | apply qH | refine qF ?_ NB0_383.out _ | refine qF ?_ NB0_399.out _) | exact HI0.out), by repeat (first | (with_reducible first | exact HB.out | apply Xa | refine jH ?_ (qE HI0.out) | refine jH ?_ GE383.out | refine jH ?_ GE399.out) | exact HB.out), by repeat (first | (with_reducible first | exact HK.out | apply jG | apply Xk | refine jT ?_ GW383.out _ | refine jT ?_ GW399.out _) | exact HK.out)⟩
   exact absurd H (by simp)

end Go.Proofs.Ytgeoihhibglhgaa.PFnPiecesHidden
