-- printed by wip/xp
import Derived.Test.YtgeoihhibglhgaaPFnPiecesHiddenx0
import Derived.Test.YtgeoihhibglhgaaPFnPiecesHiddenx3
import Derived.Test.YtgeoihhibglhgaaPFnPiecesHiddenx9
import Derived.Test.YtgeoihhibglhgaaPFnPiecesHiddenx10
import Derived.Test.YtgeoihhibglhgaaPFnPiecesHiddenx13
import Derived.Test.YtgeoihhibglhgaaPFnPiecesHiddenx15
set_option maxHeartbeats 8000000
set_option maxRecDepth 100000
namespace Go.Proofs.Ytgeoihhibglhgaa.PFnPiecesHidden
open Go.RowKit Go.Proofs.YtgeoihhibglhgaaW.PrintWords Go.Proofs.YtgeoihhibglhgaaW.PrintLast Go.Proofs.YtgeoihhibglhgaaW.PrintMore Go.Proofs.Ytgeoihhibglhgaa.Xmv
attribute [local go_sem] max2_int min2_int max_two min_two max_three min_three max_four min_four
set_option linter.unusedVariables false
set_option linter.unusedSimpArgs false

/-! ### laws_jRows: function 91 -/
def laws_jRows.l0 : Nat → List (List Int) → List (List Int) → Int → Int → Option (Bool)
 | 0, _, _, _, _ => none
 | k + 1, x0, x1, x12, x13 => if x13 < x12 then (if 0 ≤ x13 then (if x13 < (x0.length : Int) then (if x13 < (x1.length : Int) then ((laws_jSame.f k (rd_L3 x0 x13) (rd_L3 x1 x13)).bind fun t524 => (if t524 = true then (laws_jRows.l0 k x0 x1 x12 (wrap64 (x13 + 1))) else (some false))) else (none)) else (none)) else (none)) else (some true)
def laws_jRows.f (k : Nat) (l0 : List (List Int)) (l1 : List (List Int)) : Option (Bool) := if (l0.length : Int) = (l1.length : Int) then (laws_jRows.l0 k l0 l1 (l0.length : Int) 0) else (some false)
theorem laws_jRows.calls (k : Nat) (A0 : Option Addr) (c0 : Nat) (l0 : List (List Int)) (A1 : Option Addr) (c1 : Nat) (l1 : List (List Int)) (r : Bool) (w : World) (hr0 : Kd.C (Kd.slice 3 (Kd.int .i64)) w A0 l0.length l0) (hc0 : l0.length ≤ c0) (hr1 : Kd.C (Kd.slice 3 (Kd.int .i64)) w A1 l1.length l1) (hc1 : l1.length ≤ c1) (h : laws_jRows.f k l0 l1 = some r) :
 Calls Try.prog 91 #[.slice A0 l0.length c0, .slice A1 l1.length c1] w fun e w' => e = .returned (.bool r) ∧ Drawn0 w w' := by
 have HR0 := jA hr0
 have HC0 := jA hc0
 clear hr0 hc0
 have HR1 := jA hr1
 have HC1 := jA hc1
 clear hr1 hc1
 have H := h; unfold laws_jRows.f at H
 clear h
 replace H := Ic H; rcases H with ⟨c3, H⟩ | ⟨c3, H⟩
 · have c3b0 : ((l0.length : Int) == (l1.length : Int)) = true := beq_iff_eq.mpr c3
   have c3b1 := bne_eq_false_iff_eq.mpr c3
   have c3b2 : (l0.length == l1.length) = true := by first | simpa using c3 | (simp at c3 ⊢; omega)
   clear c3
   have H' := jA H
   clear H
   go_enter Try.func91, Try.ntmps91
   go_wp2
   repeat (go_quiet (fail); try go_wp2)
   go_loopg [13] k (fun kq v13 w' => ∃ (x13_1 : Int), v13 = .int .i64 x13_1 ∧ Aside0 (laws_jRows.l0 kq l0 l1 (l0.length : Int) x13_1 = some r) ∧ Aside0 (kq ≤ k) ∧ Drawn0 w w')
   case atStart => exact ⟨(0), Rs, H', ⟨jX _⟩, Dr⟩
   case round =>
    clear H'
    try clear c1
    try clear c3
    try clear c3b0
    try clear c3b1
    try clear c3b2
    obtain ⟨x13_1, rfl, HA, HK1, ⟨m1, rfl⟩⟩ := hrel
    cases gk with
    | zero => exact absurd HA.out (by simp [laws_jRows.l0])
    | succ k1 =>
     have H := HA.out
     clear HA
     simp only [laws_jRows.l0] at H
     replace H := Ic H; rcases H with ⟨c4, H⟩ | ⟨c4, H⟩
     · have c4b0 := jK c4
       clear c4
       replace H := Ip H; obtain ⟨c5, H⟩ := H
       have c5b0 := jK c5
       clear c5
       replace H := Ip H; obtain ⟨c6, H⟩ := H
       have c6b0 := jK c6
       clear c6
       replace H := Ip H; obtain ⟨c7, H⟩ := H
       have c7b0 := jK c7
       clear c7
       replace H := jD H
       obtain ⟨t524, A80, H⟩ := H
       have A8 := jA A80
       clear A80
       replace H := Iw H; rcases H with ⟨rfl, H⟩ | ⟨rfl, H⟩
       · have H' := jA H
         clear H
         have p522 : 0 ≤ (x13_1 : Int) := Oa
         have q522 : x13_1 < (l0.length : Int) := Oa
         obtain ⟨ad522, A522_0, c522_0, e522, hx522_0, hl522_0, hi522_0⟩ := at_L3 HR0.out x13_1 p522 q522
         cases e522
         have HR522_0 := jA hi522_0
         have HC522_0 := jA hl522_0
         clear hi522_0 hl522_0
         replace p522 := eq_true p522
         replace q522 := eq_true q522
         have p523 : 0 ≤ (x13_1 : Int) := Oa
         have q523 : x13_1 < (l1.length : Int) := Oa
         obtain ⟨ad523, A523_0, c523_0, e523, hx523_0, hl523_0, hi523_0⟩ := at_L3 HR1.out x13_1 p523 q523
         cases e523
         have HR523_0 := jA hi523_0
         have HC523_0 := jA hl523_0
         clear hi523_0 hl523_0
         replace p523 := eq_true p523
         replace q523 := eq_true q523
         go_wp2_with (first | (go_at_call 157; (with_reducible refine (laws_jSame.calls k1 _ _ (rd_L3 l0 x13_1) _ _ (rd_L3 l1 x13_1) true _ (Cm HR522_0.out) HC522_0.out (Cm HR523_0.out) HC523_0.out A8.out).mono ?_); rintro e w' ⟨rfl, ⟨nd, rfl⟩⟩; (try first | exact ⟨rfl, _, World.drewN_drewN _ _ _⟩ | exact ⟨rfl, _, Eq.trans (World.drewN_drewN _ _ _) (congrArg (World.drewN _) (Nat.add_assoc _ _ _))⟩)))
         repeat (go_quiet (first | (go_at_call 157; (with_reducible refine (laws_jSame.calls k1 _ _ (rd_L3 l0 x13_1) _ _ (rd_L3 l1 x13_1) true _ (Cm HR522_0.out) HC522_0.out (Cm HR523_0.out) HC523_0.out A8.out).mono ?_); rintro e w' ⟨rfl, ⟨nd, rfl⟩⟩; (try first | exact ⟨rfl, _, World.drewN_drewN _ _ _⟩ | exact ⟨rfl, _, Eq.trans (World.drewN_drewN _ _ _) (congrArg (World.drewN _) (Nat.add_assoc _ _ _))⟩))); try go_wp2_with (first | (go_at_call 157; (with_reducible refine (laws_jSame.calls k1 _ _ (rd_L3 l0 x13_1) _ _ (rd_L3 l1 x13_1) true _ (Cm HR522_0.out) HC522_0.out (Cm HR523_0.out) HC523_0.out A8.out).mono ?_); rintro e w' ⟨rfl, ⟨nd, rfl⟩⟩; (try first | exact ⟨rfl, _, World.drewN_drewN _ _ _⟩ | exact ⟨rfl, _, Eq.trans (World.drewN_drewN _ _ _) (congrArg (World.drewN _) (Nat.add_assoc _ _ _))⟩))))
         go_roundg k1
         case measure => have := HK1.out; omega
         case rel => exact ⟨(wrap64 (x13_1 + 1)), Rs, H', ⟨by have := HK1.out; omega⟩, Dr⟩
       obtain rfl := jM H
       have p522 : 0 ≤ (x13_1 : Int) := Oa
       have q522 : x13_1 < (l0.length : Int) := Oa
       obtain ⟨ad522, A522_0, c522_0, e522, hx522_0, hl522_0, hi522_0⟩ := at_L3 HR0.out x13_1 p522 q522
       cases e522
       have HR522_0 := jA hi522_0
       have HC522_0 := jA hl522_0
       clear hi522_0 hl522_0
       replace p522 := eq_true p522
       replace q522 := eq_true q522
       have p523 : 0 ≤ (x13_1 : Int) := Oa
       have q523 : x13_1 < (l1.length : Int) := Oa
       obtain ⟨ad523, A523_0, c523_0, e523, hx523_0, hl523_0, hi523_0⟩ := at_L3 HR1.out x13_1 p523 q523
       cases e523
       have HR523_0 := jA hi523_0
       have HC523_0 := jA hl523_0
       clear hi523_0 hl523_0
       replace p523 := eq_true p523
       replace q523 := eq_true q523
       go_wp2_with (first | (go_at_call 157; (with_reducible refine (laws_jSame.calls k1 _ _ (rd_L3 l0 x13_1) _ _ (rd_L3 l1 x13_1) false _ (Cm HR522_0.out) HC522_0.out (Cm HR523_0.out) HC523_0.out A8.out).mono ?_); rintro e w' ⟨rfl, ⟨nd, rfl⟩⟩; (try first | exact ⟨rfl, _, World.drewN_drewN _ _ _⟩ | exact ⟨rfl, _, Eq.trans (World.drewN_drewN _ _ _) (congrArg (World.drewN _) (Nat.add_assoc _ _ _))⟩)))
       repeat (go_quiet (first | (go_at_call 157; (with_reducible refine (laws_jSame.calls k1 _ _ (rd_L3 l0 x13_1) _ _ (rd_L3 l1 x13_1) false _ (Cm HR522_0.out) HC522_0.out (Cm HR523_0.out) HC523_0.out A8.out).mono ?_); rintro e w' ⟨rfl, ⟨nd, rfl⟩⟩; (try first | exact ⟨rfl, _, World.drewN_drewN _ _ _⟩ | exact ⟨rfl, _, Eq.trans (World.drewN_drewN _ _ _) (congrArg (World.drewN _) (Nat.add_assoc _ _ _))⟩))); try go_wp2_with (first | (go_at_call 157; (with_reducible refine (laws_jSame.calls k1 _ _ (rd_L3 l0 x13_1) _ _ (rd_L3 l1 x13_1) false _ (Cm HR522_0.out) HC522_0.out (Cm HR523_0.out) HC523_0.out A8.out).mono ?_); rintro e w' ⟨rfl, ⟨nd, rfl⟩⟩; (try first | exact ⟨rfl, _, World.drewN_drewN _ _ _⟩ | exact ⟨rfl, _, Eq.trans (World.drewN_drewN _ _ _) (congrArg (World.drewN _) (Nat.add_assoc _ _ _))⟩))))
       go_ret
       exact ⟨Rs, Dr⟩
     have c4b0 := jV c4
     clear c4
     obtain rfl := jM H
     go_wp2
     repeat (go_quiet (fail); try go_wp2)
     go_ret
     exact ⟨Rs, Dr⟩
 have c3b0 : ((l0.length : Int) == (l1.length : Int)) = false := beq_eq_false_iff_ne.mpr c3
 have c3b1 := bne_iff_ne.mpr c3
 have c3b2 : (l0.length == l1.length) = false := by first | simpa using c3 | (simp at c3 ⊢; omega)
 obtain rfl := jM H
 go_enter Try.func91, Try.ntmps91
 go_wp2
 repeat (go_quiet (fail); try go_wp2)
 go_ret
 exact ⟨Rs, Dr⟩

/-! ### spec_DrawAddClue: function 92 -/
def spec_DrawAddClue_in.f (k : Nat) (s0_0 : List Int) (s0_1 : Int) (s0_2 : Int) : Option ((List (S58)) × Int × Int × Int × Int × Int) := (spec_l1Cur_puzzle.f k s0_0 s0_1 s0_2).bind fun bt527 => ((spec_l1Cur_clue.f k s0_0 bt527.2.1 bt527.2.2).bind fun bt532 => (some (bt527.1, bt532.1, bt532.2.1, bt532.2.2.1, bt532.2.2.2.1, bt532.2.2.2.2)))
def spec_DrawAddClue.f (k : Nat) (l0 : List Int) : Option (List (S58) × Int × Int × Int) := (spec_DrawAddClue_in.f k l0 0 0).bind fun t_ => some (t_.1, t_.2.1, t_.2.2.1, t_.2.2.2.1)
theorem spec_DrawAddClue.calls (k : Nat) (A0_ : Option Addr) (c0_ : Nat) (s0_0 : List Int) (r1 : List (S58)) (r2 : Int) (r3 : Int) (r4 : Int) (w0 : World) (hr0_ : Kd.C (Kd.int .u8) w0 A0_ s0_0.length s0_0) (hc0_ : s0_0.length ≤ c0_) (h : spec_DrawAddClue.f k s0_0 = some (r1, r2, r3, r4)) :
 Calls Try.prog 92 #[.slice A0_ s0_0.length c0_] w0 fun e w' => ∃ v0_ : Value, e = .returned (.tuple #[.agg #[v0_], .agg #[.int .i64 r2, .int .i64 r3, .int .i64 r4]]) ∧ Kd.R k58 58 w' w0.heap.size (fun _ => True) v0_ r1 ∧ Below w0.heap.size w0 w' := by
 unfold spec_DrawAddClue.f at h
 obtain ⟨tt_, h0_, h⟩ := Option.bind_eq_some_iff.1 h
 obtain ⟨y0_, y1_, y2_, y3_, r5, r6⟩ := tt_
 have h := (jM h).symm
 simp only [Prod.mk.injEq] at h
 obtain ⟨e0_, e1_, e2_, e3_⟩ := h
 subst e0_
 subst e1_
 subst e2_
 subst e3_
 obtain ⟨s0_1, es1_⟩ : ∃ s_ : Int, s_ = 0 := ⟨_, rfl⟩
 obtain ⟨s0_2, es2_⟩ : ∃ s_ : Int, s_ = 0 := ⟨_, rfl⟩
 have h : spec_DrawAddClue_in.f k s0_0 s0_1 s0_2 = some (r1, r2, r3, r4, r5, r6) := by subst es1_ es2_; exact h0_
 clear h0_
 obtain ⟨gb525, hg0_⟩ : ∃ g_, g_ = w0.heap.size := ⟨_, rfl⟩
 obtain ⟨gb526, hg1_⟩ : ∃ g_, g_ = w0.heap.size + 1 := ⟨_, rfl⟩
 obtain ⟨g, hg_⟩ : ∃ g_, g_ = w0.heap.size + 2 := ⟨_, rfl⟩
 obtain ⟨w, hw_⟩ : ∃ w_, w_ = ((w0.alloc (.cells #[.slice none 0 0] 52)).alloc (.cells #[.int .i64 0, .int .i64 0, .int .i64 0] 58)).alloc (.cells #[.slice A0_ s0_0.length c0_, .int .i64 0, .int .u64 0] 102) := ⟨_, rfl⟩
 have hI : IsS102 w0 w g s0_0 s0_1 s0_2 := by subst hw_ hg_ es1_ es2_; have h_ := blk_new ((w0.alloc (.cells #[.slice none 0 0] 52)).alloc (.cells #[.int .i64 0, .int .i64 0, .int .i64 0] 58)) (.cells #[.slice A0_ s0_0.length c0_, .int .i64 0, .int .u64 0] 102); rw [show ((w0.alloc (.cells #[.slice none 0 0] 52)).alloc (.cells #[.int .i64 0, .int .i64 0, .int .i64 0] 58)).heap.size = w0.heap.size + 2 from by simp] at h_; exact ⟨A0_, c0_, h_, Nat.le_add_right _ _, hr0_⟩
 have hB : Below w0.heap.size w0 w := by subst hw_; exact jP (jP (jP (jU _ _) _) _) _
 have BK525 := jA (show w.heap[gb525]? = some (.cells #[.slice none 0 0] 52 (0, 0)) from by subst hw_ hg0_; have h_ := blk_new w0 (.cells #[.slice none 0 0] 52); exact blk_alloc (blk_alloc (h_) _) _)
 have GW525 := jA (show w0.heap.size ≤ gb525 from by omega)
 have GE525 := jA (show w0.heap.size ≤ gb525 from by omega)
 have NB0_525 := jA (show g ≠ gb525 from by omega)
 have NB525_0 := jA (show gb525 ≠ g from by omega)
 have NB525_526 := jA (show gb525 ≠ gb526 from by omega)
 have BK526 := jA (show w.heap[gb526]? = some (.cells #[.int .i64 0, .int .i64 0, .int .i64 0] 58 (0, 0)) from by subst hw_ hg1_; have h_ := blk_new (w0.alloc (.cells #[.slice none 0 0] 52)) (.cells #[.int .i64 0, .int .i64 0, .int .i64 0] 58); rw [show (w0.alloc (.cells #[.slice none 0 0] 52)).heap.size = w0.heap.size + 1 from by simp] at h_; exact blk_alloc (h_) _)
 have GW526 := jA (show w0.heap.size ≤ gb526 from by omega)
 have GE526 := jA (show w0.heap.size ≤ gb526 from by omega)
 have NB0_526 := jA (show g ≠ gb526 from by omega)
 have NB526_0 := jA (show gb526 ≠ g from by omega)
 have NB526_525 := jA (show gb526 ≠ gb525 from by omega)
 have HGW_ := jA (And.intro hw_ (And.intro hg_ (And.intro hg1_ hg0_)))
 clear hg_ hw_ hg0_ hg1_ es1_ es2_ hr0_ hc0_
 refine (show Calls Try.prog 92 #[.slice A0_ s0_0.length c0_] w0 (fun e w' => ∃ v0_ : Value, e = .returned (.tuple #[.agg #[v0_], .agg #[.int .i64 r2, .int .i64 r3, .int .i64 r4]]) ∧ Kd.R k58 58 w' w0.heap.size (fun _ => True) v0_ r1 ∧ IsS102 w0 w' g s0_0 r5 r6 ∧ Below w0.heap.size w0 w' ∧ KeepBut w0 w' g none) from ?_).mono (fun e w' hx_ => by obtain ⟨v0_, rfl, hx1_, hx2_, hx3_, hx4_⟩ := hx_; exact ⟨v0_, rfl, hx1_, hx3_⟩)
 have hu52 := Try.underlying52
 have hu58 := Try.underlying58
 have HI0 := jA hI
 have HK := jA (jb hB g none)
 have HL := jA (jX w0.heap.size)
 clear hI
 have HW0 := jA (jX w0.heap.size)
 have HB := jA hB
 clear hB
 have H := h; unfold spec_DrawAddClue.f at H
 clear h
 replace H := jD H
 obtain ⟨⟨t527, t530, t531⟩, A20, H⟩ := H
 have A2 := jA A20
 clear A20
 replace H := jD H
 obtain ⟨⟨t532, t533, t534, t535, t536⟩, A30, H⟩ := H
 have A3 := jA A30
 clear A30
 simp only [Option.some.injEq, Prod.mk.injEq] at H
 obtain ⟨rfl, rfl, rfl, rfl, rfl, rfl⟩ := H
 go_enter Try.func92, Try.ntmps92
 go_upto_region 2 with (fail)
 (try simp only [Act.put, List.setIfInBounds_toArray, List.set_cons_zero, List.set_cons_succ])
 have hgw_ := HGW_.out
 rw [← hgw_.1]
 (try rw [← hgw_.2.1])
 (try rw [← hgw_.2.2.1])
 (try rw [← hgw_.2.2.2])
 clear hgw_
 go_wp2_with (first | ((with_reducible refine gate_dst (N := 2) rfl ?_); refine box_event ?hg (N := 2) ?hd (cs := #[.slice none 0 0]) (t := 52) ?hr ?_; (case hd => rfl); (case hg => rfl); (case hr => first | (go_simp; done) | (go_simp; rfl)); intro gb525 hg w4 hbox hb; replace HB := jA (jB (by repeat (first | (with_reducible first | exact HB.out | apply Xa | refine jH ?_ (qE HI0.out)) | exact HB.out)) hb); have BK525 := jA (hbox); have GW525 := jA ((by rw [hg]; exact (je (w := w0) (g := g) (row := none) (by repeat (first | (with_reducible first | exact HK.out | apply jG | apply Xk) | exact HK.out))) : w0.heap.size ≤ gb525)); have GE525 := jA ((Nat.le_trans HW0.out (by rw [hg]; exact (je (w := w0) (g := g) (row := none) (by repeat (first | (with_reducible first | exact HK.out | apply jG | apply Xk) | exact HK.out))) : w0.heap.size ≤ gb525) : w0.heap.size ≤ gb525)); replace HK := jA (jS (by repeat (first | (with_reducible first | exact HK.out | apply jG | apply Xk) | exact HK.out)) (jb hb g none) (.inl rfl)); have NB0_525 := jA ((by rw [hg]; exact jZ (qD (show IsS102 w0 _ g s0_0 s0_1 s0_2 from by repeat (first | (with_reducible first | exact HI0.out | apply Xs | apply qG | apply qH) | exact HI0.out))) : g ≠ gb525)); have NB525_0 := jA ((by rw [hg]; exact ja (qD (show IsS102 w0 _ g s0_0 s0_1 s0_2 from by repeat (first | (with_reducible first | exact HI0.out | apply Xs | apply qG | apply qH) | exact HI0.out))) : gb525 ≠ g)); replace HI0 := jA (qA (by repeat (first | (with_reducible first | exact HI0.out | apply Xs | apply qG | apply qH) | exact HI0.out)) hb); clear hb hbox hg) | ((with_reducible refine gate_dst (N := 3) rfl ?_); refine box_event ?hg (N := 3) ?hd (cs := #[.int .i64 0, .int .i64 0, .int .i64 0]) (t := 58) ?hr ?_; (case hd => rfl); (case hg => rfl); (case hr => first | (go_simp; done) | (go_simp; rfl)); intro gb526 hg w5 hbox hb; replace HB := jA (jB (by repeat (first | (with_reducible first | exact HB.out | apply Xa | refine jH ?_ (qE HI0.out) | refine jH ?_ GE525.out) | exact HB.out)) hb); have BK526 := jA (hbox); have GW526 := jA ((by rw [hg]; exact (je (w := w0) (g := g) (row := none) (by repeat (first | (with_reducible first | exact HK.out | apply jG | apply Xk | refine jT ?_ GW525.out _) | exact HK.out))) : w0.heap.size ≤ gb526)); have GE526 := jA ((Nat.le_trans HW0.out (by rw [hg]; exact (je (w := w0) (g := g) (row := none) (by repeat (first | (with_reducible first | exact HK.out | apply jG | apply Xk | refine jT ?_ GW525.out _) | exact HK.out))) : w0.heap.size ≤ gb526) : w0.heap.size ≤ gb526)); replace HK := jA (jS (by repeat (first | (with_reducible first | exact HK.out | apply jG | apply Xk | refine jT ?_ GW525.out _) | exact HK.out)) (jb hb g none) (.inl rfl)); have NB525_526 := jA ((by rw [hg]; exact jZ (blk_lt (g := gb525) (o := .cells #[.slice none 0 0] 52 (0, 0)) (Bm BK525.out)) : gb525 ≠ gb526)); have NB526_525 := jA ((by rw [hg]; exact ja (blk_lt (g := gb525) (o := .cells #[.slice none 0 0] 52 (0, 0)) (Bm BK525.out)) : gb526 ≠ gb525)); replace BK525 := jA (jN (g := gb525) (o := .cells #[.slice none 0 0] 52 (0, 0)) (Bm BK525.out) hb); have NB0_526 := jA ((by rw [hg]; exact jZ (qD (show IsS102 w0 _ g s0_0 s0_1 s0_2 from by repeat (first | (with_reducible first | exact HI0.out | apply Xs | apply qG | apply qH | refine qF ?_ NB0_525.out _) | exact HI0.out))) : g ≠ gb526)); have NB526_0 := jA ((by rw [hg]; exact ja (qD (show IsS102 w0 _ g s0_0 s0_1 s0_2 from by repeat (first | (with_reducible first | exact HI0.out | apply Xs | apply qG | apply qH | refine qF ?_ NB0_525.out _) | exact HI0.out))) : gb526 ≠ g)); replace HI0 := jA (qA (by repeat (first | (with_reducible first | exact HI0.out | apply Xs | apply qG | apply qH | refine qF ?_ NB0_525.out _) | exact HI0.out)) hb); clear hb hbox hg) | (refine Gl 9 #[.pointer (some ⟨g, 0, none⟩)] Try.func222 ?_; (with_reducible refine (spec_l1Cur_puzzle.calls k g s0_0 s0_1 s0_2 t527 t530 t531 w0 _ ?side1 ?side2 A2.out).mono ?_); (case side1 => repeat (first | (with_reducible first | exact HI0.out | apply Xs | apply qG | apply qH | refine qF ?_ NB0_525.out _ | refine qF ?_ NB0_526.out _) | exact HI0.out)); (case side2 => repeat (first | (with_reducible first | exact HB.out | apply Xa | refine jH ?_ (qE HI0.out) | refine jH ?_ GE525.out | refine jH ?_ GE526.out) | exact HB.out)); rintro e w6 ⟨v528, rfl, ho0, hi, hb, hk⟩; refine ⟨_, rfl, ?_⟩; replace BK525 := jA (jd hk (g' := gb525) (o := .cells #[.slice none 0 0] 52 (0, 0)) (Bm BK525.out) NB525_0.out (by simp)); have HO529 := jA (jf (Kd.R_newB ho0 (g := gb526) (o := .cells #[.int .i64 0, .int .i64 0, .int .i64 0] 58 (0, 0)) (Bm BK526.out)) (je (w := w0) (g := g) (row := none) (by repeat (first | (with_reducible first | exact HK.out | apply jG | apply Xk | refine jT ?_ GW525.out _ | refine jT ?_ GW526.out _) | exact HK.out)))); replace BK526 := jA (jd hk (g' := gb526) (o := .cells #[.int .i64 0, .int .i64 0, .int .i64 0] 58 (0, 0)) (Bm BK526.out) NB526_0.out (by simp)); replace HK := jA (jS (by repeat (first | (with_reducible first | exact HK.out | apply jG | apply Xk | refine jT ?_ GW525.out _ | refine jT ?_ GW526.out _) | exact HK.out)) hk (.inl rfl)); replace HB := jA (hb); replace HI0 := jA (hi); clear hb hk hi ho0) | (refine Gl 11 #[.pointer (some ⟨g, 0, none⟩)] Try.func230 ?_; (with_reducible refine (spec_l1Cur_clue.calls k g s0_0 t530 t531 t532 t533 t534 t535 t536 w0 _ ?side1 ?side2 A3.out).mono ?_); (case side1 => repeat (first | (with_reducible first | exact HI0.out | apply Xs | apply qG | apply qH | refine qF ?_ NB0_525.out _ | refine qF ?_ NB0_526.out _) | exact HI0.out)); (case side2 => repeat (first | (with_reducible first | exact HB.out | apply Xa | refine jH ?_ (qE HI0.out) | refine jH ?_ GE525.out | refine jH ?_ GE526.out) | exact HB.out)); rintro e w7 ⟨rfl, hi, hb, hk⟩; refine ⟨_, rfl, ?_⟩; replace BK525 := jA (jd hk (g' := gb525) (o := .cells #[.slice none 0 0] 52 (0, 0)) (Bm BK525.out) NB525_0.out (by simp)); replace BK526 := jA (jd hk (g' := gb526) (o := .cells #[.int .i64 0, .int .i64 0, .int .i64 0] 58 (0, 0)) (Bm BK526.out) NB526_0.out (by simp)); replace HO529 := jA (jW (jh (qB (show IsS102 w0 _ g s0_0 t530 t531 from by repeat (first | (with_reducible first | exact HI0.out | apply Xs | apply qG | apply qH | refine qF ?_ NB0_525.out _ | refine qF ?_ NB0_526.out _) | exact HI0.out)) (Rm HO529.out) (by decide)) hk (fun _ h => h.2)) (fun _ h => h.1)); replace HK := jA (jS (by repeat (first | (with_reducible first | exact HK.out | apply jG | apply Xk | refine jT ?_ GW525.out _ | refine jT ?_ GW526.out _) | exact HK.out)) hk (.inl rfl)); replace HB := jA (hb); replace HI0 := jA (hi); clear hb hk hi; obtain ⟨Ao8, co8, eo8⟩ := jq HO529.out; subst eo8; have hnb9 := NB525_526.out; have hnc9 := NB526_525.out; have hnb10 := NB525_0.out; have hnc10 := NB0_525.out; have hcz11_0 : w7.cell? ⟨gb525, 0, none⟩ = some (.slice none 0 0) := (jE BK525.out 0).trans rfl; have hfz11_0 := jF BK525.out 0; have hnb12 := NB526_0.out; have hnc12 := NB0_526.out; have hcz13_0 : w7.cell? ⟨gb526, 0, none⟩ = some (.int .i64 0) := (jE BK526.out 0).trans rfl; have hcz13_1 : w7.cell? ⟨gb526, 1, none⟩ = some (.int .i64 0) := (jE BK526.out 1).trans rfl; have hcz13_2 : w7.cell? ⟨gb526, 2, none⟩ = some (.int .i64 0) := (jE BK526.out 2).trans rfl; have hfz13_0 := jF BK526.out 0; have hfz13_1 := jF BK526.out 1; have hfz13_2 := jF BK526.out 2))
 refine bodyPost_ret (results_cc rfl _ _ gb525 gb526 52 58 #[.slice Ao8 t527.length co8] #[.int .i64 t532, .int .i64 t533, .int .i64 t534] (0, 0) (0, 0) _ _ rfl (by (with_reducible repeat refine Xg ?_); refine jk ?_ NB525_526.out _; (with_reducible repeat refine Xg ?_); refine jk ?_ NB525_526.out _; (with_reducible repeat refine Xg ?_); refine jk ?_ NB525_526.out _; (with_reducible repeat refine Xg ?_); refine jp (cs := #[.slice none 0 0]) ?_ 0 _ rfl; (with_reducible repeat refine Xg ?_); exact BK525.out) Try.underlying52 rfl (by kernel_rfl) rfl (by (with_reducible repeat refine Xg ?_); refine jp (cs := #[.int .i64 t532, .int .i64 t533, .int .i64 0]) ?_ 2 _ rfl; (with_reducible repeat refine Xg ?_); refine jp (cs := #[.int .i64 t532, .int .i64 0, .int .i64 0]) ?_ 1 _ rfl; (with_reducible repeat refine Xg ?_); refine jp (cs := #[.int .i64 0, .int .i64 0, .int .i64 0]) ?_ 0 _ rfl; (with_reducible repeat refine Xg ?_); refine jk ?_ NB526_525.out _; (with_reducible repeat refine Xg ?_); exact BK526.out) Try.underlying58 rfl (by kernel_rfl)) rfl ?_
 exact ⟨_, Re, by (with_reducible repeat apply Xq); exact jW (jg (p := ⟨gb526, 2, none⟩) (jg (p := ⟨gb526, 1, none⟩) (jg (p := ⟨gb526, 0, none⟩) (jg (p := ⟨gb525, 0, none⟩) (jW (jm HO529.out BK525.out (by decide)) (fun k_ hk => (⟨hk, hk.1.2⟩ : _ ∧ k_ ≠ gb526))) (fun _ hk => hk.1.2) (.slice Ao8 t527.length co8)) (fun _ hk => hk.2) (.int .i64 t532)) (fun _ hk => hk.2) (.int .i64 t533)) (fun _ hk => hk.2) (.int .i64 t534)) (fun _ hk => trivial), by repeat (first | (with_reducible first | exact HI0.out | apply Xs | apply qG | apply qH | refine qF ?_ NB0_525.out _ | refine qF ?_ NB0_526.out _) | exact HI0.out), by repeat (first | (with_reducible first | exact HB.out | apply Xa | refine jH ?_ (qE HI0.out) | refine jH ?_ GE525.out | refine jH ?_ GE526.out) | exact HB.out), by repeat (first | (with_reducible first | exact HK.out | apply jG | apply Xk | refine jT ?_ GW525.out _ | refine jT ?_ GW526.out _) | exact HK.out)⟩

/-! ### impl_AddClue: function 93 -/
def impl_AddClue.f (k : Nat) (l0_0 : List (S58)) (a1_0 : Int) (a1_1 : Int) (a1_2 : Int) : Option ((List (S58)) × Bool) := (impl_IsPuzzle.f k l0_0).bind fun t540 => (if t540 = true then ((impl_IsClue.f k a1_0 a1_1 a1_2).bind fun t541 => (if t541 = true then (if (l0_0.length : Int) = 6 then (some (([] : List (S58)), false)) else ((impl_Clue_223.f l0_0).bind fun t542 => ((some (([(⟨a1_0, a1_1, a1_2⟩ : S58)] : List (S58)) : List (S58))).bind fun y545 => (if t542.length + y545.length < 5864062014805 then (some ((t542 ++ y545), true)) else (none))))) else (some (([] : List (S58)), false)))) else (some (([] : List (S58)), false)))
def impl_AddClue.T3 : Bool × List (List Nat × List Nat) := (true, [([], []), ([0], [0]), ([1], [1]), ([], []), ([3], [3]), ([2, 4, 2], [2, 4]), ([5], [5]), ([6, 5, 0, 1, 2, 3, 4, 5, 6], [6]), ([7, 0, 1, 2, 3, 4, 5, 6, 7], [])])
def impl_AddClue.B3 : List Nat := [0, 1, 3, 0, 8, 31, 63, 127, 255]
theorem impl_AddClue.tab3 : rtab .any (opsOf Try.f93 3) = impl_AddClue.T3 := by kernel_rfl
theorem impl_AddClue.bits3 : waitsOk impl_AddClue.T3.2 impl_AddClue.B3 = true := by kernel_rfl
theorem impl_AddClue.calls (k : Nat) (A0_0 : Option Addr) (c0_0 : Nat) (l0_0 : List (S58)) (a1_0 : Int) (a1_1 : Int) (a1_2 : Int) (r1 : List (S58)) (r2 : Bool) (w : World) (hr0_0 : Kd.C k58 w A0_0 l0_0.length l0_0) (hc0_0 : l0_0.length ≤ c0_0) (h : impl_AddClue.f k l0_0 a1_0 a1_1 a1_2 = some (r1, r2)) :
 Calls Try.prog 93 #[.agg #[.slice A0_0 l0_0.length c0_0], .agg #[.int .i64 a1_0, .int .i64 a1_1, .int .i64 a1_2]] w fun e w' => ∃ v0_ : Value, e = .returned (.tuple #[.agg #[v0_], .bool r2]) ∧ Kd.R k58 58 w' w.heap.size (fun _ => True) v0_ r1 ∧ Below w.heap.size w w' := by
 have hu52 := Try.underlying52
 have hu58 := Try.underlying58
 have HR0_0 := jA hr0_0
 have HC0_0 := jA hc0_0
 clear hr0_0 hc0_0
 have HB := jA (jU w.heap.size w)
 have H := h; unfold impl_AddClue.f at H
 clear h
 replace H := jD H
 obtain ⟨t540, A30, H⟩ := H
 have A3 := jA A30
 clear A30
 replace H := Iw H; rcases H with ⟨rfl, H⟩ | ⟨rfl, H⟩
 · replace H := jD H
   obtain ⟨t541, A50, H⟩ := H
   have A5 := jA A50
   clear A50
   replace H := Iw H; rcases H with ⟨rfl, H⟩ | ⟨rfl, H⟩
   · replace H := Ic H; rcases H with ⟨c7, H⟩ | ⟨c7, H⟩
     · have c7b0 : ((l0_0.length : Int) == 6) = true := beq_iff_eq.mpr c7
       have c7b1 := bne_eq_false_iff_eq.mpr c7
       clear c7
       simp only [Option.some.injEq, Prod.mk.injEq] at H
       obtain ⟨rfl, rfl⟩ := H
       go_enter Try.func93, Try.ntmps93
       go_wp2_with (first | ((with_reducible refine gate_dst (N := 2) rfl ?_); (try (refine gate_guard (by rfl) ?_; dsimp only)); refine box_event ?hg (N := 2) ?hd (cs := #[.slice A0_0 l0_0.length c0_0]) (t := 52) ?hr ?_; (case hd => rfl); (case hg => rfl); (case hr => first | (go_simp; done) | (go_simp; rfl)); intro gb537 hg w8 hbox hb; have BK537 := jA (hbox); have GW537 := jA ((by rw [hg]; exact (jL Ub) : w.heap.size ≤ gb537)); have GE537 := jA ((by rw [hg]; exact (jL Ub) : w.heap.size ≤ gb537)); replace HB := jA (jB Ub hb); clear hb hbox hg) | ((with_reducible refine gate_dst (N := 3) rfl ?_); (try (refine gate_guard (by rfl) ?_; dsimp only)); refine box_event ?hg (N := 3) ?hd (cs := #[.int .i64 a1_0, .int .i64 a1_1, .int .i64 a1_2]) (t := 58) ?hr ?_; (case hd => rfl); (case hg => rfl); (case hr => first | (go_simp; done) | (go_simp; rfl)); intro gb538 hg w9 hbox hb; have BK538 := jA (hbox); have GW538 := jA ((by rw [hg]; exact (jL Ub) : w.heap.size ≤ gb538)); have GE538 := jA ((by rw [hg]; exact (jL Ub) : w.heap.size ≤ gb538)); replace HB := jA (jB Ub hb); have NB537_538 := jA ((by rw [hg]; exact jZ (blk_lt (g := gb537) (o := .cells #[.slice A0_0 l0_0.length c0_0] 52 (0, 0)) (Bm BK537.out)) : gb537 ≠ gb538)); have NB538_537 := jA ((by rw [hg]; exact ja (blk_lt (g := gb537) (o := .cells #[.slice A0_0 l0_0.length c0_0] 52 (0, 0)) (Bm BK537.out)) : gb538 ≠ gb537)); replace BK537 := jA (jN (g := gb537) (o := .cells #[.slice A0_0 l0_0.length c0_0] 52 (0, 0)) (Bm BK537.out) hb); clear hb hbox hg) | ((with_reducible refine gate_dst (N := 4) rfl ?_); (try (refine gate_guard (by rfl) ?_; dsimp only)); refine box_event ?hg (N := 4) ?hd (cs := #[.slice none 0 0]) (t := 52) ?hr ?_; (case hd => rfl); (case hg => rfl); (case hr => first | (go_simp; done) | (go_simp; rfl)); intro gb539 hg w10 hbox hb; have BK539 := jA (hbox); have GW539 := jA ((by rw [hg]; exact (jL Ub) : w.heap.size ≤ gb539)); have GE539 := jA ((by rw [hg]; exact (jL Ub) : w.heap.size ≤ gb539)); replace HB := jA (jB Ub hb); have NB537_539 := jA ((by rw [hg]; exact jZ (blk_lt (g := gb537) (o := .cells #[.slice A0_0 l0_0.length c0_0] 52 (0, 0)) (Bm BK537.out)) : gb537 ≠ gb539)); have NB539_537 := jA ((by rw [hg]; exact ja (blk_lt (g := gb537) (o := .cells #[.slice A0_0 l0_0.length c0_0] 52 (0, 0)) (Bm BK537.out)) : gb539 ≠ gb537)); replace BK537 := jA (jN (g := gb537) (o := .cells #[.slice A0_0 l0_0.length c0_0] 52 (0, 0)) (Bm BK537.out) hb); have NB538_539 := jA ((by rw [hg]; exact jZ (blk_lt (g := gb538) (o := .cells #[.int .i64 a1_0, .int .i64 a1_1, .int .i64 a1_2] 58 (0, 0)) (Bm BK538.out)) : gb538 ≠ gb539)); have NB539_538 := jA ((by rw [hg]; exact ja (blk_lt (g := gb538) (o := .cells #[.int .i64 a1_0, .int .i64 a1_1, .int .i64 a1_2] 58 (0, 0)) (Bm BK538.out)) : gb539 ≠ gb538)); replace BK538 := jA (jN (g := gb538) (o := .cells #[.int .i64 a1_0, .int .i64 a1_1, .int .i64 a1_2] 58 (0, 0)) (Bm BK538.out) hb); clear hb hbox hg; have hnb11 := NB537_538.out; have hnc11 := NB538_537.out; have hnb12 := NB537_539.out; have hnc12 := NB539_537.out; have hcz13_0 : w10.cell? ⟨gb537, 0, none⟩ = some (.slice A0_0 l0_0.length c0_0) := (jE BK537.out 0).trans rfl; have hfz13_0 := jF BK537.out 0) | (refine Gl 7 #[.agg #[.slice A0_0 l0_0.length c0_0]] Try.func84 ?_; (with_reducible refine (impl_IsPuzzle.calls k _ _ l0_0 true _ (Cm (jY HR0_0.out HB.out)) HC0_0.out A3.out).mono ?_); rintro e w14 ⟨rfl, hb⟩; refine ⟨_, rfl, ?_⟩; replace BK537 := jA (jN (g := gb537) (o := .cells #[.slice A0_0 l0_0.length c0_0] 52 (0, 0)) (Bm BK537.out) hb); replace BK538 := jA (jN (g := gb538) (o := .cells #[.int .i64 a1_0, .int .i64 a1_1, .int .i64 a1_2] 58 (0, 0)) (Bm BK538.out) hb); replace BK539 := jA (jN (g := gb539) (o := .cells #[.slice none 0 0] 52 (0, 0)) (Bm BK539.out) hb); replace HB := jA (jB Ub hb); clear hb; have hnb15 := NB538_539.out; have hnc15 := NB539_538.out; have hcz16_0 : w14.cell? ⟨gb538, 0, none⟩ = some (.int .i64 a1_0) := (jE BK538.out 0).trans rfl; have hcz16_1 : w14.cell? ⟨gb538, 1, none⟩ = some (.int .i64 a1_1) := (jE BK538.out 1).trans rfl; have hcz16_2 : w14.cell? ⟨gb538, 2, none⟩ = some (.int .i64 a1_2) := (jE BK538.out 2).trans rfl; have hfz16_0 := jF BK538.out 0; have hfz16_1 := jF BK538.out 1; have hfz16_2 := jF BK538.out 2) | (go_at_call 101; (with_reducible refine (impl_IsClue.calls k a1_0 a1_1 a1_2 true _ A5.out).mono ?_); rintro e w17 ⟨rfl, hb⟩; replace BK537 := jA (jN (g := gb537) (o := .cells #[.slice A0_0 l0_0.length c0_0] 52 (0, 0)) (Bm BK537.out) hb); replace BK538 := jA (jN (g := gb538) (o := .cells #[.int .i64 a1_0, .int .i64 a1_1, .int .i64 a1_2] 58 (0, 0)) (Bm BK538.out) hb); replace BK539 := jA (jN (g := gb539) (o := .cells #[.slice none 0 0] 52 (0, 0)) (Bm BK539.out) hb); replace HB := jA (jB Ub hb); clear hb; have hcz18_0 : w17.cell? ⟨gb537, 0, none⟩ = some (.slice A0_0 l0_0.length c0_0) := (jE BK537.out 0).trans rfl; have hfz18_0 := jF BK537.out 0; have hcz19_0 : w17.cell? ⟨gb539, 0, none⟩ = some (.slice none 0 0) := (jE BK539.out 0).trans rfl; have hfz19_0 := jF BK539.out 0))
       refine bodyPost_ret (results_ct rfl _ _ gb539 52 #[.slice none 0 0] (0, 0) _ rfl (by (with_reducible repeat refine Xg ?_); refine jp (cs := #[.slice none 0 0]) ?_ 0 _ rfl; (with_reducible repeat refine Xg ?_); exact BK539.out) Try.underlying52 rfl (by kernel_rfl)) rfl ?_
       exact ⟨_, Re, Nl, Ub⟩
     have c7b0 : ((l0_0.length : Int) == 6) = false := beq_eq_false_iff_ne.mpr c7
     have c7b1 := bne_iff_ne.mpr c7
     replace H := jD H
     obtain ⟨t542, A200, H⟩ := H
     have A20 := jA A200
     clear A200
     obtain ⟨y545, hy545⟩ : ∃ y_ : List (S58), y_ = (([(⟨a1_0, a1_1, a1_2⟩ : S58)] : List (S58))) := ⟨_, rfl⟩
     replace H : (if t542.length + y545.length < 5864062014805 then (some ((t542 ++ y545), true)) else (none)) = some (r1, r2) := by first | (rw [hy545]; with_reducible exact H) | (have H2_ := (Option.bind_some _ _).symm.trans H; rw [hy545]; with_reducible exact H2_) | (have H2_ := (Option.bind_some _ _).symm.trans H; with_reducible exact H2_) | with_reducible exact H | (rw [hy545]; exact H) | exact H
     have Ny545 := jA hy545
     clear hy545
     replace H := Ip H; obtain ⟨c21, H⟩ := H
     have LMc21 := jA c21
     clear c21
     obtain ⟨y548, hy548⟩ : ∃ y_ : List (S58), y_ = (t542 ++ y545) := ⟨_, rfl⟩
     replace H : (some (y548, true)) = some (r1, r2) := by first | (rw [hy548]; with_reducible exact H) | (have H2_ := (Option.bind_some _ _).symm.trans H; rw [hy548]; with_reducible exact H2_) | (have H2_ := (Option.bind_some _ _).symm.trans H; with_reducible exact H2_) | with_reducible exact H | (rw [hy548]; exact H) | exact H
     have Ny548 := jA hy548
     clear hy548
     simp only [Option.some.injEq, Prod.mk.injEq] at H
     obtain ⟨rfl, rfl⟩ := H
     go_enter Try.func93, Try.ntmps93
     try go_wp2_with (first | ((with_reducible refine gate_dst (N := 2) rfl ?_); (try (refine gate_guard (by rfl) ?_; dsimp only)); refine box_event ?hg (N := 2) ?hd (cs := #[.slice A0_0 l0_0.length c0_0]) (t := 52) ?hr ?_; (case hd => rfl); (case hg => rfl); (case hr => first | (go_simp; done) | (go_simp; rfl)); intro gb537 hg w22 hbox hb; have BK537 := jA (hbox); have GW537 := jA ((by rw [hg]; exact (jL Ub) : w.heap.size ≤ gb537)); have GE537 := jA ((by rw [hg]; exact (jL Ub) : w.heap.size ≤ gb537)); replace HB := jA (jB Ub hb); clear hb hbox hg) | ((with_reducible refine gate_dst (N := 3) rfl ?_); (try (refine gate_guard (by rfl) ?_; dsimp only)); refine box_event ?hg (N := 3) ?hd (cs := #[.int .i64 a1_0, .int .i64 a1_1, .int .i64 a1_2]) (t := 58) ?hr ?_; (case hd => rfl); (case hg => rfl); (case hr => first | (go_simp; done) | (go_simp; rfl)); intro gb538 hg w23 hbox hb; have BK538 := jA (hbox); have GW538 := jA ((by rw [hg]; exact (jL Ub) : w.heap.size ≤ gb538)); have GE538 := jA ((by rw [hg]; exact (jL Ub) : w.heap.size ≤ gb538)); replace HB := jA (jB Ub hb); have NB537_538 := jA ((by rw [hg]; exact jZ (blk_lt (g := gb537) (o := .cells #[.slice A0_0 l0_0.length c0_0] 52 (0, 0)) (Bm BK537.out)) : gb537 ≠ gb538)); have NB538_537 := jA ((by rw [hg]; exact ja (blk_lt (g := gb537) (o := .cells #[.slice A0_0 l0_0.length c0_0] 52 (0, 0)) (Bm BK537.out)) : gb538 ≠ gb537)); replace BK537 := jA (jN (g := gb537) (o := .cells #[.slice A0_0 l0_0.length c0_0] 52 (0, 0)) (Bm BK537.out) hb); clear hb hbox hg) | ((with_reducible refine gate_dst (N := 4) rfl ?_); (try (refine gate_guard (by rfl) ?_; dsimp only)); refine box_event ?hg (N := 4) ?hd (cs := #[.slice none 0 0]) (t := 52) ?hr ?_; (case hd => rfl); (case hg => rfl); (case hr => first | (go_simp; done) | (go_simp; rfl)); intro gb539 hg w24 hbox hb; have BK539 := jA (hbox); have GW539 := jA ((by rw [hg]; exact (jL Ub) : w.heap.size ≤ gb539)); have GE539 := jA ((by rw [hg]; exact (jL Ub) : w.heap.size ≤ gb539)); replace HB := jA (jB Ub hb); have NB537_539 := jA ((by rw [hg]; exact jZ (blk_lt (g := gb537) (o := .cells #[.slice A0_0 l0_0.length c0_0] 52 (0, 0)) (Bm BK537.out)) : gb537 ≠ gb539)); have NB539_537 := jA ((by rw [hg]; exact ja (blk_lt (g := gb537) (o := .cells #[.slice A0_0 l0_0.length c0_0] 52 (0, 0)) (Bm BK537.out)) : gb539 ≠ gb537)); replace BK537 := jA (jN (g := gb537) (o := .cells #[.slice A0_0 l0_0.length c0_0] 52 (0, 0)) (Bm BK537.out) hb); have NB538_539 := jA ((by rw [hg]; exact jZ (blk_lt (g := gb538) (o := .cells #[.int .i64 a1_0, .int .i64 a1_1, .int .i64 a1_2] 58 (0, 0)) (Bm BK538.out)) : gb538 ≠ gb539)); have NB539_538 := jA ((by rw [hg]; exact ja (blk_lt (g := gb538) (o := .cells #[.int .i64 a1_0, .int .i64 a1_1, .int .i64 a1_2] 58 (0, 0)) (Bm BK538.out)) : gb539 ≠ gb538)); replace BK538 := jA (jN (g := gb538) (o := .cells #[.int .i64 a1_0, .int .i64 a1_1, .int .i64 a1_2] 58 (0, 0)) (Bm BK538.out) hb); clear hb hbox hg; have hnb25 := NB537_538.out; have hnc25 := NB538_537.out; have hnb26 := NB537_539.out; have hnc26 := NB539_537.out; have hcz27_0 : w24.cell? ⟨gb537, 0, none⟩ = some (.slice A0_0 l0_0.length c0_0) := (jE BK537.out 0).trans rfl; have hfz27_0 := jF BK537.out 0) | (refine Gl 7 #[.agg #[.slice A0_0 l0_0.length c0_0]] Try.func84 ?_; (with_reducible refine (impl_IsPuzzle.calls k _ _ l0_0 true _ (Cm (jY HR0_0.out HB.out)) HC0_0.out A3.out).mono ?_); rintro e w28 ⟨rfl, hb⟩; refine ⟨_, rfl, ?_⟩; replace BK537 := jA (jN (g := gb537) (o := .cells #[.slice A0_0 l0_0.length c0_0] 52 (0, 0)) (Bm BK537.out) hb); replace BK538 := jA (jN (g := gb538) (o := .cells #[.int .i64 a1_0, .int .i64 a1_1, .int .i64 a1_2] 58 (0, 0)) (Bm BK538.out) hb); replace BK539 := jA (jN (g := gb539) (o := .cells #[.slice none 0 0] 52 (0, 0)) (Bm BK539.out) hb); replace HB := jA (jB Ub hb); clear hb; have hnb29 := NB538_539.out; have hnc29 := NB539_538.out; have hcz30_0 : w28.cell? ⟨gb538, 0, none⟩ = some (.int .i64 a1_0) := (jE BK538.out 0).trans rfl; have hcz30_1 : w28.cell? ⟨gb538, 1, none⟩ = some (.int .i64 a1_1) := (jE BK538.out 1).trans rfl; have hcz30_2 : w28.cell? ⟨gb538, 2, none⟩ = some (.int .i64 a1_2) := (jE BK538.out 2).trans rfl; have hfz30_0 := jF BK538.out 0; have hfz30_1 := jF BK538.out 1; have hfz30_2 := jF BK538.out 2) | (go_at_call 101; (with_reducible refine (impl_IsClue.calls k a1_0 a1_1 a1_2 true _ A5.out).mono ?_); rintro e w31 ⟨rfl, hb⟩; replace BK537 := jA (jN (g := gb537) (o := .cells #[.slice A0_0 l0_0.length c0_0] 52 (0, 0)) (Bm BK537.out) hb); replace BK538 := jA (jN (g := gb538) (o := .cells #[.int .i64 a1_0, .int .i64 a1_1, .int .i64 a1_2] 58 (0, 0)) (Bm BK538.out) hb); replace BK539 := jA (jN (g := gb539) (o := .cells #[.slice none 0 0] 52 (0, 0)) (Bm BK539.out) hb); replace HB := jA (jB Ub hb); clear hb; have hcz32_0 : w31.cell? ⟨gb537, 0, none⟩ = some (.slice A0_0 l0_0.length c0_0) := (jE BK537.out 0).trans rfl; have hfz32_0 := jF BK537.out 0))
     replace BK537 := jA (jR BK537.out); replace BK538 := jA (jR BK538.out); replace BK539 := jA (jR BK539.out); replace HB := jA (jQ HB.out)
     refine start_ (n := 9) (S := fun w' => w'.cell? ⟨gb537, 0, none⟩ = some (.slice A0_0 l0_0.length c0_0) ∧ w'.cell? ⟨gb538, 0, none⟩ = some (.int .i64 a1_0) ∧ w'.cell? ⟨gb538, 1, none⟩ = some (.int .i64 a1_1) ∧ w'.cell? ⟨gb538, 2, none⟩ = some (.int .i64 a1_2)) (ds := []) #[false, false, false, false, false, false, false, false, false] (by kernel_rfl) rfl rfl ⟨(jE BK537.out 0).trans rfl, (jE BK538.out 0).trans rfl, (jE BK538.out 1).trans rfl, (jE BK538.out 2).trans rfl⟩ (fun hHeld => ?_); refine with_tabW impl_AddClue.tab3 impl_AddClue.bits3 (fun HT_ HW_ => ?_)
     generalize w31.drew = w33 at BK537 BK538 BK539 HB hHeld ⊢
     refine Pu 0 21 #[true, false, false, false, false, false, false, false, false] HT_.out ?_
     refine take_ (i := 1) (N := some 22) (v := ?_) (a' := ?_) #[true, true, false, false, false, false, false, false, false] rfl rfl (take_ofW HT_.out HW_.out (by kernel_rfl)) (fun _ _ _ h => h) (Or.inl ⟨by rfl, ?_⟩) hHeld ?_ ?_
     rotate_left
     · rintro w' ⟨s0, s1, s2, s3⟩
       go_simp
       with_reducible rfl
     rotate_left
     · simp only [Act.put, List.setIfInBounds_toArray, List.set_cons_zero, List.set_cons_succ, i64_w, i32_w]
       rfl
     refine take_ (i := 3) (N := some 24) (v := ?_) (a' := ?_) #[true, true, false, true, false, false, false, false, false] rfl rfl (take_ofW HT_.out HW_.out (by kernel_rfl)) (fun _ _ _ h => h) (Or.inl ⟨by rfl, ?_⟩) hHeld ?_ ?_
     rotate_left
     · rintro w' ⟨s0, s1, s2, s3⟩
       go_simp
       with_reducible rfl
     rotate_left
     · simp only [Act.put, List.setIfInBounds_toArray, List.set_cons_zero, List.set_cons_succ, i64_w, i32_w]
       rfl
     refine join_ (σ := Value × Value) 4 #[true, true, true, true, true, false, false, false, false] (fun s_ => [(23, s_.1), (25, s_.2)]) (fun s_ w' => (w'.cell? ⟨gb537, 0, none⟩ = some (.slice A0_0 l0_0.length c0_0) ∧ w'.cell? ⟨gb538, 0, none⟩ = some (.int .i64 a1_0) ∧ w'.cell? ⟨gb538, 1, none⟩ = some (.int .i64 a1_1) ∧ w'.cell? ⟨gb538, 2, none⟩ = some (.int .i64 a1_2)) ∧ (Kd.R k58 58 w' w.heap.size (fun k_ => some k_ ≠ (s_.2 : Value).ownBlock ∧ k_ ≠ gb538) s_.1 t542) ∧ (Kd.R k58 58 w' w.heap.size (fun k_ => some k_ ≠ (s_.1 : Value).ownBlock ∧ k_ ≠ gb538) s_.2 y545) ∧ (w'.heap[gb537]? = some (.cells #[.slice A0_0 l0_0.length c0_0] 52 (0, 0))) ∧ (w'.heap[gb538]? = some (.cells #[.int .i64 a1_0, .int .i64 a1_1, .int .i64 a1_2] 58 (0, 0))) ∧ (w'.heap[gb539]? = some (.cells #[.slice none 0 0] 52 (0, 0))) ∧ (Below w.heap.size w w')) ?_ ?_
     rotate_left
     · intro hCont
       refine two_ (i := 2) (j := 4) (Ni := some 23) (Nj := some 25) #[true, true, true, true, false, false, false, false, false] #[true, true, false, true, true, false, false, false, false] rfl rfl rfl rfl (two_of HT_.out (by kernel_rfl)) (by decide) (by decide) (fun K hK => ?_) (fun K hK => ?_)
       · skip
         refine goes_ Try.func223 (by kernel_rfl) rfl #[.slice A0_0 l0_0.length c0_0] (by rfl) rfl rfl Ga ?_
         with_reducible refine (impl_Clue_223.calls _ _ l0_0 t542 _ ?side1 ?side2 A20.out).mono ?_
         (case side1 => repeat (first | exact (jY HR0_0.out HB.out) | (with_reducible refine Xc ?_)))
         (case side2 => exact HC0_0.out)
         rintro e w34 ⟨v543, rfl, ho0, hb⟩
         refine ⟨_, rfl, ?_⟩
         have HO544 := jA (jf (Kd.R_newB ho0 (g := gb538) (o := .cells #[.int .i64 a1_0, .int .i64 a1_1, .int .i64 a1_2] 58 (0, 0)) (Bm BK538.out)) (jL Ub)); replace BK537 := jA (jN (g := gb537) (o := .cells #[.slice A0_0 l0_0.length c0_0] 52 (0, 0)) (Bm BK537.out) hb); replace BK538 := jA (jN (g := gb538) (o := .cells #[.int .i64 a1_0, .int .i64 a1_1, .int .i64 a1_2] 58 (0, 0)) (Bm BK538.out) hb); replace BK539 := jA (jN (g := gb539) (o := .cells #[.slice none 0 0] 52 (0, 0)) (Bm BK539.out) hb); replace HB := jA (jB Ub hb); (try clear hb); (try clear hb2); (try clear hk); (try clear hi); (try clear ho0)
         refine hK.out _ _ ⟨(jE BK537.out 0).trans rfl, (jE BK538.out 0).trans rfl, (jE BK538.out 1).trans rfl, (jE BK538.out 2).trans rfl⟩ (fun hHeld => ?_)
         clear hK K
         refine norm_ (a' := ?_) ?_ ?_
         rotate_left
         · show Act.put _ (some 23) _ = _
           simp only [Act.put, List.setIfInBounds_toArray, List.set_cons_zero, List.set_cons_succ, i64_w, i32_w]
           rfl
         refine one_ (i := 4) (N := some 25) #[true, true, true, true, true, false, false, false, false] rfl rfl (one_of HT_.out (by kernel_rfl)) (by decide) (fun K hK => ?_)
         refine Kd.R_lit_step k58 _ 58 ?hg (N := 25) ?hd (xs := ([(⟨a1_0, a1_1, a1_2⟩ : S58)] : List (S58))) (inner := [.int .i64 a1_0, .int .i64 a1_1, .int .i64 a1_2]) (ok := fun _ => True) (okp := fun _ => True) ?hr ?hp (fun _ hk => hk) trivial (jU _ _) (jX _) (by simp) ?_; (case hd => rfl); (case hg => rfl); (case hr => first | (go_simp; done) | (go_simp; rfl)); (case hp => exact (Reps.c3 (show Kd.M k58 _ _ _ (⟨a1_0, a1_1, a1_2⟩ : S58) [.int .i64 a1_0, .int .i64 a1_1, .int .i64 a1_2] from (k58_mkM _ _ _ (⟨a1_0, a1_1, a1_2⟩ : S58) )) (Reps.none _ _)))
         intro v546 w35 ho36 hb hg_ hnew_
         clear hg_ hnew_
         (first | rw [← Ny545.out] at ho36 | (simp only [Int.reduceToNat] at ho36; rw [← Ny545.out] at ho36))
         have n0_ := jA (Kd.R_elder' (Rm HO544.out) (Kd.R_base ho36) hb); have n1_ := jA (jf (Kd.R_newB (Kd.R_new' ho36 (jr (Rm HO544.out))) (g := gb538) (o := .cells #[.int .i64 a1_0, .int .i64 a1_1, .int .i64 a1_2] 58 (0, 0)) (Bm BK538.out)) (jL Ub)); have n2_ := jA (jN (g := gb537) (o := .cells #[.slice A0_0 l0_0.length c0_0] 52 (0, 0)) (Bm BK537.out) hb); have n3_ := jA (jN (g := gb538) (o := .cells #[.int .i64 a1_0, .int .i64 a1_1, .int .i64 a1_2] 58 (0, 0)) (Bm BK538.out) hb); have n4_ := jA (jN (g := gb539) (o := .cells #[.slice none 0 0] 52 (0, 0)) (Bm BK539.out) hb); have n5_ := jA (jB Ub hb); clear HO544 BK537 BK538 BK539 HB; have HO544 := n0_; have HO547 := n1_; have BK537 := n2_; have BK538 := n3_; have BK539 := n4_; have HB := n5_; clear n0_ n1_ n2_ n3_ n4_ n5_ hb ho36
         refine hK.out _ _ ⟨(jE BK537.out 0).trans rfl, (jE BK538.out 0).trans rfl, (jE BK538.out 1).trans rfl, (jE BK538.out 2).trans rfl⟩ (fun hHeld => ?_)
         clear hK K
         refine norm_ (a' := ?_) ?_ ?_
         rotate_left
         · show Act.put _ (some 25) _ = _
           simp only [Act.put, List.setIfInBounds_toArray, List.set_cons_zero, List.set_cons_succ, i64_w, i32_w]
           rfl
         exact norm_ (by simp only [putAll, Act.put, List.setIfInBounds_toArray, List.set_cons_zero, List.set_cons_succ]) (hCont (v543, v546) _ ⟨hHeld, (by (with_reducible repeat apply Xq); exact jW HO544.out (fun _ hk => ⟨hk.2, hk.1.2⟩)), (by (with_reducible repeat apply Xq); exact jW HO547.out (fun _ hk => ⟨hk.1.2, hk.2⟩)), (Bm BK537.out), (Bm BK538.out), (Bm BK539.out), Ub⟩)
       skip
       refine Kd.R_lit_step k58 _ 58 ?hg (N := 25) ?hd (xs := ([(⟨a1_0, a1_1, a1_2⟩ : S58)] : List (S58))) (inner := [.int .i64 a1_0, .int .i64 a1_1, .int .i64 a1_2]) (ok := fun _ => True) (okp := fun _ => True) ?hr ?hp (fun _ hk => hk) trivial (jU _ _) (jX _) (by simp) ?_; (case hd => rfl); (case hg => rfl); (case hr => first | (go_simp; done) | (go_simp; rfl)); (case hp => exact (Reps.c3 (show Kd.M k58 _ _ _ (⟨a1_0, a1_1, a1_2⟩ : S58) [.int .i64 a1_0, .int .i64 a1_1, .int .i64 a1_2] from (k58_mkM _ _ _ (⟨a1_0, a1_1, a1_2⟩ : S58) )) (Reps.none _ _)))
       intro v546 w34 ho35 hb hg_ hnew_
       clear hg_ hnew_
       (first | rw [← Ny545.out] at ho35 | (simp only [Int.reduceToNat] at ho35; rw [← Ny545.out] at ho35))
       have n0_ := jA (jf (Kd.R_newB ho35 (g := gb538) (o := .cells #[.int .i64 a1_0, .int .i64 a1_1, .int .i64 a1_2] 58 (0, 0)) (Bm BK538.out)) (jL Ub)); have n1_ := jA (jN (g := gb537) (o := .cells #[.slice A0_0 l0_0.length c0_0] 52 (0, 0)) (Bm BK537.out) hb); have n2_ := jA (jN (g := gb538) (o := .cells #[.int .i64 a1_0, .int .i64 a1_1, .int .i64 a1_2] 58 (0, 0)) (Bm BK538.out) hb); have n3_ := jA (jN (g := gb539) (o := .cells #[.slice none 0 0] 52 (0, 0)) (Bm BK539.out) hb); have n4_ := jA (jB Ub hb); clear BK537 BK538 BK539 HB; have HO547 := n0_; have BK537 := n1_; have BK538 := n2_; have BK539 := n3_; have HB := n4_; clear n0_ n1_ n2_ n3_ n4_ hb ho35
       refine hK.out _ _ ⟨(jE BK537.out 0).trans rfl, (jE BK538.out 0).trans rfl, (jE BK538.out 1).trans rfl, (jE BK538.out 2).trans rfl⟩ (fun hHeld => ?_)
       clear hK K
       refine norm_ (a' := ?_) ?_ ?_
       rotate_left
       · show Act.put _ (some 25) _ = _
         simp only [Act.put, List.setIfInBounds_toArray, List.set_cons_zero, List.set_cons_succ, i64_w, i32_w]
         rfl
       refine one_ (i := 2) (N := some 23) #[true, true, true, true, true, false, false, false, false] rfl rfl (one_of HT_.out (by kernel_rfl)) (by decide) (fun K hK => ?_)
       refine goes_ Try.func223 (by kernel_rfl) rfl #[.slice A0_0 l0_0.length c0_0] (by rfl) rfl rfl Ga ?_
       with_reducible refine (impl_Clue_223.calls _ _ l0_0 t542 _ ?side1 ?side2 A20.out).mono ?_
       (case side1 => repeat (first | exact (jY HR0_0.out HB.out) | (with_reducible refine Xc ?_)))
       (case side2 => exact HC0_0.out)
       rintro e w36 ⟨v543, rfl, ho0, hb⟩
       refine ⟨_, rfl, ?_⟩
       have HO544 := jA (jf (Kd.R_newB (Kd.R_new' ho0 (jr (Rm HO547.out))) (g := gb538) (o := .cells #[.int .i64 a1_0, .int .i64 a1_1, .int .i64 a1_2] 58 (0, 0)) (Bm BK538.out)) (jL Ub)); replace HO547 := jA (Kd.R_elder' (Rm HO547.out) (Kd.R_base ho0) hb); replace BK537 := jA (jN (g := gb537) (o := .cells #[.slice A0_0 l0_0.length c0_0] 52 (0, 0)) (Bm BK537.out) hb); replace BK538 := jA (jN (g := gb538) (o := .cells #[.int .i64 a1_0, .int .i64 a1_1, .int .i64 a1_2] 58 (0, 0)) (Bm BK538.out) hb); replace BK539 := jA (jN (g := gb539) (o := .cells #[.slice none 0 0] 52 (0, 0)) (Bm BK539.out) hb); replace HB := jA (jB Ub hb); (try clear hb); (try clear hb2); (try clear hk); (try clear hi); (try clear ho0)
       refine hK.out _ _ ⟨(jE BK537.out 0).trans rfl, (jE BK538.out 0).trans rfl, (jE BK538.out 1).trans rfl, (jE BK538.out 2).trans rfl⟩ (fun hHeld => ?_)
       clear hK K
       refine norm_ (a' := ?_) ?_ ?_
       rotate_left
       · show Act.put _ (some 23) _ = _
         simp only [Act.put, List.setIfInBounds_toArray, List.set_cons_zero, List.set_cons_succ, i64_w, i32_w]
         rfl
       exact norm_ (by simp only [putAll, Act.put, List.setIfInBounds_toArray, List.set_cons_zero, List.set_cons_succ]) (hCont (v543, v546) _ ⟨hHeld, (by (with_reducible repeat apply Xq); exact jW HO544.out (fun _ hk => ⟨hk.1.2, hk.2⟩)), (by (with_reducible repeat apply Xq); exact jW HO547.out (fun _ hk => ⟨hk.2, hk.1.2⟩)), (Bm BK537.out), (Bm BK538.out), (Bm BK539.out), Ub⟩)
     rintro ⟨v543, v546⟩ w37 ⟨hS_, h0_, h1_, h2_, h3_, h4_, h5_⟩
     have n0_ : Aside0 (Kd.R k58 58 w37 w.heap.size (fun k_ => some k_ ≠ (v546 : Value).ownBlock ∧ k_ ≠ gb538) v543 t542) := ⟨h0_⟩
     have n1_ : Aside0 (Kd.R k58 58 w37 w.heap.size (fun k_ => some k_ ≠ (v543 : Value).ownBlock ∧ k_ ≠ gb538) v546 y545) := ⟨h1_⟩
     have n2_ : Aside0 (w37.heap[gb537]? = some (.cells #[.slice A0_0 l0_0.length c0_0] 52 (0, 0))) := ⟨h2_⟩
     have n3_ : Aside0 (w37.heap[gb538]? = some (.cells #[.int .i64 a1_0, .int .i64 a1_1, .int .i64 a1_2] 58 (0, 0))) := ⟨h3_⟩
     have n4_ : Aside0 (w37.heap[gb539]? = some (.cells #[.slice none 0 0] 52 (0, 0))) := ⟨h4_⟩
     have n5_ : Aside0 (Below w.heap.size w w37) := ⟨h5_⟩
     clear BK537; clear BK538 BK539 HB h0_ h1_ h2_ h3_ h4_ h5_; have HO544 := n0_; have HO547 := n1_; have BK537 := n2_; have BK538 := n3_; have BK539 := n4_; have HB := n5_; clear n0_ n1_ n2_ n3_ n4_ n5_
     have hHeld : w37.cell? ⟨gb537, 0, none⟩ = some (.slice A0_0 l0_0.length c0_0) ∧ w37.cell? ⟨gb538, 0, none⟩ = some (.int .i64 a1_0) ∧ w37.cell? ⟨gb538, 1, none⟩ = some (.int .i64 a1_1) ∧ w37.cell? ⟨gb538, 2, none⟩ = some (.int .i64 a1_2) := hS_
     obtain ⟨Ao39, co39, eo39⟩ := jq HO547.out
     (first | subst eo39 | (injection eo39 with f1_ f2_ f3_; have f4_ := f1_.symm; have f5_ := f3_.symm; clear f1_ f2_ f3_; subst f4_; subst f5_))
     refine norm_ (a' := ?_) ?_ ?_
     rotate_left
     · simp only [putAll, Act.put, List.setIfInBounds_toArray, List.set_cons_zero, List.set_cons_succ]
       rfl
     refine one_ (i := 5) (N := some 26) #[true, true, true, true, true, true, false, false, false] rfl rfl (one_of HT_.out (by kernel_rfl)) (by decide) (fun K hK => ?_)
     refine Kd.R_append_rows_step k58 (w0 := w) w.heap.size (by rfl) (.tmp 23) (.tmp 25) 50 58 (.agg #[(.int .i64 0), (.int .i64 0), (.int .i64 0)]) 24 rfl Try.underlying50 info58 rfl (by decide) (by omega) v543 t542 y545 _ _ _ (fun k_ => some k_ ≠ (.slice Ao39 y545.length co39 : Value).ownBlock ∧ k_ ≠ gb538) (fun _ => False) rfl rfl ?aO ?aR (fun _ _ h => h) (fun _ h => h.elim) ?aF ?aB ?aS ?aL ?_
     (case aR => repeat (first | exact (Kd.R_reads' HO547.out).2.2 | (with_reducible refine Xc ?_)))
     (case aB => exact Ub)
     (case aF => exact (fun k_ hk => ⟨Kd.fresh' (jr (Rm HO547.out)) k_ hk, Kd.freshB (g := gb538) (o := .cells #[.int .i64 a1_0, .int .i64 a1_1, .int .i64 a1_2] 58 (0, 0)) (Bm BK538.out) k_ hk⟩))
     (case aO => exact (Rm HO544.out))
     (case aS => exact (jL Ub))
     (case aL => have := LMc21.out; omega)
     intro v549 w38 ho hb hg hat
     rw [← Ny548.out] at ho
     have n0_ := jA (js (g := gb537) (o := .cells #[.slice A0_0 l0_0.length c0_0] 52 (0, 0)) (Bm BK537.out) hg (Kd.R_ne HO544.out BK537.out (by decide))); have n1_ := jA (js (g := gb538) (o := .cells #[.int .i64 a1_0, .int .i64 a1_1, .int .i64 a1_2] 58 (0, 0)) (Bm BK538.out) hg (Kd.R_away HO544.out (fun _ hk => hk.2))); have n2_ := jA (js (g := gb539) (o := .cells #[.slice none 0 0] 52 (0, 0)) (Bm BK539.out) hg (Kd.R_ne HO544.out BK539.out (by decide))); have n3_ := jA (Kd.R_after (ok := (fun k_ => k_ ≠ gb538)) (by (with_reducible repeat apply Xq); exact jW HO547.out (fun _ hk => ⟨hk.2, hk.1⟩)) hg hat); have n4_ := jA (hb); have n5_ := jA (ho); clear BK537 BK538 BK539 HO547 HB HO544; have BK537 := n0_; have BK538 := n1_; have BK539 := n2_; have HO547 := n3_; have HB := n4_; have HO550 := n5_; clear n0_ n1_ n2_ n3_ n4_ n5_ ho hb hg hat
     obtain ⟨Ao40, co40, eo40⟩ := jq HO550.out
     (first | subst eo40 | (injection eo40 with f1_ f2_ f3_; have f4_ := f1_.symm; have f5_ := f3_.symm; clear f1_ f2_ f3_; subst f4_; subst f5_))
     refine hK.out _ _ ⟨(jE BK537.out 0).trans rfl, (jE BK538.out 0).trans rfl, (jE BK538.out 1).trans rfl, (jE BK538.out 2).trans rfl⟩ (fun hHeld => ?_)
     clear hK K
     refine norm_ (a' := ?_) ?_ ?_
     rotate_left
     · show Act.put _ (some 26) _ = _
       simp only [Act.put, List.setIfInBounds_toArray, List.set_cons_zero, List.set_cons_succ, i64_w, i32_w]
       rfl
     refine Pu 6 27 #[true, true, true, true, true, true, true, false, false] HT_.out ?_
     refine one_ (i := 7) (N := none) #[true, true, true, true, true, true, true, true, false] rfl rfl (one_of HT_.out (by kernel_rfl)) (by decide) (fun K hK => ?_)
     have hs41 : w38.cell? ⟨gb539, 0, none⟩ = some (.slice none 0 0) := (jE BK539.out 0).trans rfl
     have hfs41 := jF BK539.out 0
     have hns41_0 := NB537_539.out
     have hns41_1 := NB538_539.out
     have hms41_0 := NB539_537.out
     have hms41_1 := NB539_538.out
     refine skip_ (w1 := ?_) (by rfl) rfl ?_ ?_
     rotate_left
     · go_simp
       rfl
     refine hK.out _ _ ⟨((cell_far (p := ⟨gb539, _, none⟩) NB537_539.out _).trans (hHeld.1)), ((cell_far (p := ⟨gb539, _, none⟩) NB538_539.out _).trans (hHeld.2.1)), ((cell_far (p := ⟨gb539, _, none⟩) NB538_539.out _).trans (hHeld.2.2.1)), ((cell_far (p := ⟨gb539, _, none⟩) NB538_539.out _).trans (hHeld.2.2.2))⟩ (fun hHeld => ?_)
     clear hK K
     refine Pu 8 5 #[true, true, true, true, true, true, true, true, true] HT_.out ?_
     refine done_ (done_of HT_.out (by kernel_rfl)) ?_
     try go_wp2
     refine bodyPost_ret (results_ct rfl _ _ gb539 52 #[.slice Ao40 y548.length co40] (0, 0) _ rfl (by (with_reducible repeat refine Xg ?_); refine jp (cs := #[.slice none 0 0]) ?_ 0 _ rfl; (with_reducible repeat refine Xg ?_); exact BK539.out) Try.underlying52 rfl (by kernel_rfl)) rfl ?_
     exact ⟨_, Re, by (with_reducible repeat apply Xq); exact jW (jg (p := ⟨gb539, 0, none⟩) (jm HO550.out BK539.out (by decide)) (fun _ hk => hk.2) (.slice Ao40 y548.length co40)) (fun _ hk => trivial), Ub⟩
   simp only [Option.some.injEq, Prod.mk.injEq] at H
   obtain ⟨rfl, rfl⟩ := H
   go_enter Try.func93, Try.ntmps93
   go_wp2_with (first | ((with_reducible refine gate_dst (N := 2) rfl ?_); (try (refine gate_guard (by rfl) ?_; dsimp only)); refine box_event ?hg (N := 2) ?hd (cs := #[.slice A0_0 l0_0.length c0_0]) (t := 52) ?hr ?_; (case hd => rfl); (case hg => rfl); (case hr => first | (go_simp; done) | (go_simp; rfl)); intro gb537 hg w42 hbox hb; have BK537 := jA (hbox); have GW537 := jA ((by rw [hg]; exact (jL Ub) : w.heap.size ≤ gb537)); have GE537 := jA ((by rw [hg]; exact (jL Ub) : w.heap.size ≤ gb537)); replace HB := jA (jB Ub hb); clear hb hbox hg) | ((with_reducible refine gate_dst (N := 3) rfl ?_); (try (refine gate_guard (by rfl) ?_; dsimp only)); refine box_event ?hg (N := 3) ?hd (cs := #[.int .i64 a1_0, .int .i64 a1_1, .int .i64 a1_2]) (t := 58) ?hr ?_; (case hd => rfl); (case hg => rfl); (case hr => first | (go_simp; done) | (go_simp; rfl)); intro gb538 hg w43 hbox hb; have BK538 := jA (hbox); have GW538 := jA ((by rw [hg]; exact (jL Ub) : w.heap.size ≤ gb538)); have GE538 := jA ((by rw [hg]; exact (jL Ub) : w.heap.size ≤ gb538)); replace HB := jA (jB Ub hb); have NB537_538 := jA ((by rw [hg]; exact jZ (blk_lt (g := gb537) (o := .cells #[.slice A0_0 l0_0.length c0_0] 52 (0, 0)) (Bm BK537.out)) : gb537 ≠ gb538)); have NB538_537 := jA ((by rw [hg]; exact ja (blk_lt (g := gb537) (o := .cells #[.slice A0_0 l0_0.length c0_0] 52 (0, 0)) (Bm BK537.out)) : gb538 ≠ gb537)); replace BK537 := jA (jN (g := gb537) (o := .cells #[.slice A0_0 l0_0.length c0_0] 52 (0, 0)) (Bm BK537.out) hb); clear hb hbox hg) | ((with_reducible refine gate_dst (N := 4) rfl ?_); (try (refine gate_guard (by rfl) ?_; dsimp only)); refine box_event ?hg (N := 4) ?hd (cs := #[.slice none 0 0]) (t := 52) ?hr ?_; (case hd => rfl); (case hg => rfl); (case hr => first | (go_simp; done) | (go_simp; rfl)); intro gb539 hg w44 hbox hb; have BK539 := jA (hbox); have GW539 := jA ((by rw [hg]; exact (jL Ub) : w.heap.size ≤ gb539)); have GE539 := jA ((by rw [hg]; exact (jL Ub) : w.heap.size ≤ gb539)); replace HB := jA (jB Ub hb); have NB537_539 := jA ((by rw [hg]; exact jZ (blk_lt (g := gb537) (o := .cells #[.slice A0_0 l0_0.length c0_0] 52 (0, 0)) (Bm BK537.out)) : gb537 ≠ gb539)); have NB539_537 := jA ((by rw [hg]; exact ja (blk_lt (g := gb537) (o := .cells #[.slice A0_0 l0_0.length c0_0] 52 (0, 0)) (Bm BK537.out)) : gb539 ≠ gb537)); replace BK537 := jA (jN (g := gb537) (o := .cells #[.slice A0_0 l0_0.length c0_0] 52 (0, 0)) (Bm BK537.out) hb); have NB538_539 := jA ((by rw [hg]; exact jZ (blk_lt (g := gb538) (o := .cells #[.int .i64 a1_0, .int .i64 a1_1, .int .i64 a1_2] 58 (0, 0)) (Bm BK538.out)) : gb538 ≠ gb539)); have NB539_538 := jA ((by rw [hg]; exact ja (blk_lt (g := gb538) (o := .cells #[.int .i64 a1_0, .int .i64 a1_1, .int .i64 a1_2] 58 (0, 0)) (Bm BK538.out)) : gb539 ≠ gb538)); replace BK538 := jA (jN (g := gb538) (o := .cells #[.int .i64 a1_0, .int .i64 a1_1, .int .i64 a1_2] 58 (0, 0)) (Bm BK538.out) hb); clear hb hbox hg; have hnb45 := NB537_538.out; have hnc45 := NB538_537.out; have hnb46 := NB537_539.out; have hnc46 := NB539_537.out; have hcz47_0 : w44.cell? ⟨gb537, 0, none⟩ = some (.slice A0_0 l0_0.length c0_0) := (jE BK537.out 0).trans rfl; have hfz47_0 := jF BK537.out 0) | (refine Gl 7 #[.agg #[.slice A0_0 l0_0.length c0_0]] Try.func84 ?_; (with_reducible refine (impl_IsPuzzle.calls k _ _ l0_0 true _ (Cm (jY HR0_0.out HB.out)) HC0_0.out A3.out).mono ?_); rintro e w48 ⟨rfl, hb⟩; refine ⟨_, rfl, ?_⟩; replace BK537 := jA (jN (g := gb537) (o := .cells #[.slice A0_0 l0_0.length c0_0] 52 (0, 0)) (Bm BK537.out) hb); replace BK538 := jA (jN (g := gb538) (o := .cells #[.int .i64 a1_0, .int .i64 a1_1, .int .i64 a1_2] 58 (0, 0)) (Bm BK538.out) hb); replace BK539 := jA (jN (g := gb539) (o := .cells #[.slice none 0 0] 52 (0, 0)) (Bm BK539.out) hb); replace HB := jA (jB Ub hb); clear hb; have hnb49 := NB538_539.out; have hnc49 := NB539_538.out; have hcz50_0 : w48.cell? ⟨gb538, 0, none⟩ = some (.int .i64 a1_0) := (jE BK538.out 0).trans rfl; have hcz50_1 : w48.cell? ⟨gb538, 1, none⟩ = some (.int .i64 a1_1) := (jE BK538.out 1).trans rfl; have hcz50_2 : w48.cell? ⟨gb538, 2, none⟩ = some (.int .i64 a1_2) := (jE BK538.out 2).trans rfl; have hfz50_0 := jF BK538.out 0; have hfz50_1 := jF BK538.out 1; have hfz50_2 := jF BK538.out 2) | (go_at_call 101; (with_reducible refine (impl_IsClue.calls k a1_0 a1_1 a1_2 false _ A5.out).mono ?_); rintro e w51 ⟨rfl, hb⟩; replace BK537 := jA (jN (g := gb537) (o := .cells #[.slice A0_0 l0_0.length c0_0] 52 (0, 0)) (Bm BK537.out) hb); replace BK538 := jA (jN (g := gb538) (o := .cells #[.int .i64 a1_0, .int .i64 a1_1, .int .i64 a1_2] 58 (0, 0)) (Bm BK538.out) hb); replace BK539 := jA (jN (g := gb539) (o := .cells #[.slice none 0 0] 52 (0, 0)) (Bm BK539.out) hb); replace HB := jA (jB Ub hb); clear hb; have hcz52_0 : w51.cell? ⟨gb539, 0, none⟩ = some (.slice none 0 0) := (jE BK539.out 0).trans rfl; have hfz52_0 := jF BK539.out 0))
   refine bodyPost_ret (results_ct rfl _ _ gb539 52 #[.slice none 0 0] (0, 0) _ rfl (by (with_reducible repeat refine Xg ?_); refine jp (cs := #[.slice none 0 0]) ?_ 0 _ rfl; (with_reducible repeat refine Xg ?_); exact BK539.out) Try.underlying52 rfl (by kernel_rfl)) rfl ?_
   exact ⟨_, Re, Nl, Ub⟩
 simp only [Option.some.injEq, Prod.mk.injEq] at H
 obtain ⟨rfl, rfl⟩ := H
 go_enter Try.func93, Try.ntmps93
 go_wp2_with (first | ((with_reducible refine gate_dst (N := 2) rfl ?_); (try (refine gate_guard (by rfl) ?_; dsimp only)); refine box_event ?hg (N := 2) ?hd (cs := #[.slice A0_0 l0_0.length c0_0]) (t := 52) ?hr ?_; (case hd => rfl); (case hg => rfl); (case hr => first | (go_simp; done) | (go_simp; rfl)); intro gb537 hg w53 hbox hb; have BK537 := jA (hbox); have GW537 := jA ((by rw [hg]; exact (jL Ub) : w.heap.size ≤ gb537)); have GE537 := jA ((by rw [hg]; exact (jL Ub) : w.heap.size ≤ gb537)); replace HB := jA (jB Ub hb); clear hb hbox hg) | ((with_reducible refine gate_dst (N := 3) rfl ?_); (try (refine gate_guard (by rfl) ?_; dsimp only)); refine box_event ?hg (N := 3) ?hd (cs := #[.int .i64 a1_0, .int .i64 a1_1, .int .i64 a1_2]) (t := 58) ?hr ?_; (case hd => rfl); (case hg => rfl); (case hr => first | (go_simp; done) | (go_simp; rfl)); intro gb538 hg w54 hbox hb; have BK538 := jA (hbox); have GW538 := jA ((by rw [hg]; exact (jL Ub) : w.heap.size ≤ gb538)); have GE538 := jA ((by rw [hg]; exact (jL Ub) : w.heap.size ≤ gb538)); replace HB := jA (jB Ub hb); have NB537_538 := jA ((by rw [hg]; exact jZ (blk_lt (g := gb537) (o := .cells #[.slice A0_0 l0_0.length c0_0] 52 (0, 0)) (Bm BK537.out)) : gb537 ≠ gb538)); have NB538_537 := jA ((by rw [hg]; exact ja (blk_lt (g := gb537) (o := .cells #[.slice A0_0 l0_0.length c0_0] 52 (0, 0)) (Bm BK537.out)) : gb538 ≠ gb537)); replace BK537 := jA (jN (g := gb537) (o := .cells #[.slice A0_0 l0_0.length c0_0] 52 (0, 0)) (Bm BK537.out) hb); clear hb hbox hg) | ((with_reducible refine gate_dst (N := 4) rfl ?_); (try (refine gate_guard (by rfl) ?_; dsimp only)); refine box_event ?hg (N := 4) ?hd (cs := #[.slice none 0 0]) (t := 52) ?hr ?_; (case hd => rfl); (case hg => rfl); (case hr => first | (go_simp; done) | (go_simp; rfl)); intro gb539 hg w55 hbox hb; have BK539 := jA (hbox); have GW539 := jA ((by rw [hg]; exact (jL Ub) : w.heap.size ≤ gb539)); have GE539 := jA ((by rw [hg]; exact (jL Ub) : w.heap.size ≤ gb539)); replace HB := jA (jB Ub hb); have NB537_539 := jA ((by rw [hg]; exact jZ (blk_lt (g := gb537) (o := .cells #[.slice A0_0 l0_0.length c0_0] 52 (0, 0)) (Bm BK537.out)) : gb537 ≠ gb539)); have NB539_537 := jA ((by rw [hg]; exact ja (blk_lt (g := gb537) (o := .cells #[.slice A0_0 l0_0.length c0_0] 52 (0, 0)) (Bm BK537.out)) : gb539 ≠ gb537)); replace BK537 := jA (jN (g := gb537) (o := .cells #[.slice A0_0 l0_0.length c0_0] 52 (0, 0)) (Bm BK537.out) hb); have NB538_539 := jA ((by rw [hg]; exact jZ (blk_lt (g := gb538) (o := .cells #[.int .i64 a1_0, .int .i64 a1_1, .int .i64 a1_2] 58 (0, 0)) (Bm BK538.out)) : gb538 ≠ gb539)); have NB539_538 := jA ((by rw [hg]; exact ja (blk_lt (g := gb538) (o := .cells #[.int .i64 a1_0, .int .i64 a1_1, .int .i64 a1_2] 58 (0, 0)) (Bm BK538.out)) : gb539 ≠ gb538)); replace BK538 := jA (jN (g := gb538) (o := .cells #[.int .i64 a1_0, .int .i64 a1_1, .int .i64 a1_2] 58 (0, 0)) (Bm BK538.out) hb); clear hb hbox hg; have hnb56 := NB537_538.out; have hnc56 := NB538_537.out; have hnb57 := NB537_539.out; have hnc57 := NB539_537.out; have hcz58_0 : w55.cell? ⟨gb537, 0, none⟩ = some (.slice A0_0 l0_0.length c0_0) := (jE BK537.out 0).trans rfl; have hfz58_0 := jF BK537.out 0) | (refine Gl 7 #[.agg #[.slice A0_0 l0_0.length c0_0]] Try.func84 ?_; (with_reducible refine (impl_IsPuzzle.calls k _ _ l0_0 false _ (Cm (jY HR0_0.out HB.out)) HC0_0.out A3.out).mono ?_); rintro e w59 ⟨rfl, hb⟩; refine ⟨_, rfl, ?_⟩; replace BK537 := jA (jN (g := gb537) (o := .cells #[.slice A0_0 l0_0.length c0_0] 52 (0, 0)) (Bm BK537.out) hb); replace BK538 := jA (jN (g := gb538) (o := .cells #[.int .i64 a1_0, .int .i64 a1_1, .int .i64 a1_2] 58 (0, 0)) (Bm BK538.out) hb); replace BK539 := jA (jN (g := gb539) (o := .cells #[.slice none 0 0] 52 (0, 0)) (Bm BK539.out) hb); replace HB := jA (jB Ub hb); clear hb; have hnb60 := NB539_538.out; have hnc60 := NB538_539.out; have hcz61_0 : w59.cell? ⟨gb539, 0, none⟩ = some (.slice none 0 0) := (jE BK539.out 0).trans rfl; have hfz61_0 := jF BK539.out 0))
 refine bodyPost_ret (results_ct rfl _ _ gb539 52 #[.slice none 0 0] (0, 0) _ rfl (by (with_reducible repeat refine Xg ?_); refine jp (cs := #[.slice none 0 0]) ?_ 0 _ rfl; (with_reducible repeat refine Xg ?_); exact BK539.out) Try.underlying52 rfl (by kernel_rfl)) rfl ?_
 exact ⟨_, Re, Nl, Ub⟩

end Go.Proofs.Ytgeoihhibglhgaa.PFnPiecesHidden
