-- MADE FOR THIS CLAIM by wip/xp/xprint.py (with the kit's print; some functions' contracts proved by hand)
import Derived.Test.YtjjajbgijncfoaaPFnChangeGivenx0
import Derived.Test.YtjjajbgijncfoaaPFnChangeGivenx1
set_option maxHeartbeats 8000000
set_option maxRecDepth 100000
namespace Go.Proofs.Ytjjajbgijncfoaa.PFnChangeGiven
open Go.RowKit Go.Proofs.YtjjajbgijncfoaaW.PrintWords Go.Proofs.YtjjajbgijncfoaaW.PrintLast Go.Proofs.YtjjajbgijncfoaaW.PrintMore Go.Proofs.Ytjjajbgijncfoaa.Xmv
attribute [local go_sem] max2_int min2_int max_two min_two max_three min_three max_four min_four   -- for this text's walks alone
set_option linter.unusedVariables false
set_option linter.unusedSimpArgs false

/-! ### spec_l1Cur_amount: function 161 -/
def spec_l1Cur_amount.f (s0_0 : List Int) (s0_1 : Int) (s0_2 : Int) : Option (Int × Int × Int) := (spec_l1Cur_one.f s0_0 s0_1 s0_2 12).bind fun bt204 => (if bt204.1 = true then ((spec_l1Cur_among.f s0_0 bt204.2.1 bt204.2.2 (([(-1), 0, 20000, 20001, 4611686018427387904] : List Int))).bind fun bt210 => (some (bt210.1, bt210.2.1, bt210.2.2))) else ((spec_l1Cur_pick.f s0_0 bt204.2.1 bt204.2.2 90).bind fun bt213 => (some (bt213.1, bt213.2.1, bt213.2.2))))
theorem spec_l1Cur_amount.calls (g : Nat) (s0_0 : List Int) (s0_1 : Int) (s0_2 : Int) (r1 : Int) (r2 : Int) (r3 : Int) (w0 w : World) (hI : IsS65 w0 w g s0_0 s0_1 s0_2) (hB : Below w0.heap.size w0 w) (h : spec_l1Cur_amount.f s0_0 s0_1 s0_2 = some (r1, r2, r3)) :
 Calls Try.prog 161 #[.pointer (some ⟨g, 0, none⟩)] w fun e w' => e = .returned (.int .i64 r1) ∧ IsS65 w0 w' g s0_0 r2 r3 ∧ Below w0.heap.size w0 w' ∧ KeepBut w w' g none := by
 have HI0 := Aside0.mk hI
 have HK := Aside0.mk (KeepBut.refl w g none)
 have HL := Aside0.mk hB.size
 clear hI
 have HW0 := Aside0.mk hB.size
 have HB := Aside0.mk hB
 clear hB
 have H := h; unfold spec_l1Cur_amount.f at H
 clear h
 replace H := Option.bind_eq_some_iff.mp H
 obtain ⟨⟨t204, t205, t206⟩, A20, H⟩ := H
 have A2 := Aside0.mk A20
 clear A20
 replace H := Iw H; rcases H with ⟨rfl, H⟩ | ⟨rfl, H⟩
 · obtain ⟨y207, hy207⟩ : ∃ y_ : List Int, y_ = (([(-1), 0, 20000, 20001, 4611686018427387904] : List Int)) := ⟨_, rfl⟩
   replace H : ((spec_l1Cur_among.f s0_0 t205 t206 y207).bind fun bt210 => (some (bt210.1, bt210.2.1, bt210.2.2))) = some (r1, r2, r3) := by first | (rw [hy207]; with_reducible exact H) | (have H2_ := (Option.bind_some _ _).symm.trans H; rw [hy207]; with_reducible exact H2_) | (have H2_ := (Option.bind_some _ _).symm.trans H; with_reducible exact H2_) | with_reducible exact H | (rw [hy207]; exact H) | exact H
   have Ny207 := Aside0.mk hy207
   clear hy207
   replace H := Option.bind_eq_some_iff.mp H
   obtain ⟨⟨t210, t211, t212⟩, A40, H⟩ := H
   have A4 := Aside0.mk A40
   clear A40
   simp only [Option.some.injEq, Prod.mk.injEq] at H
   obtain ⟨rfl, rfl, rfl⟩ := H
   go_enter Try.func161, Try.ntmps161
   go_wp2_with (first | (refine Gl 4 #[.pointer (some ⟨g, 0, none⟩), .int .i64 12] Try.func124 ?_; (with_reducible refine (spec_l1Cur_one.calls g s0_0 s0_1 s0_2 12 true t205 t206 w0 _ ?side1 ?side2 A2.out).mono ?_); (case side1 => repeat (first | (with_reducible first | exact HI0.out | apply IsS65.alloc | apply IsS65.drewN | apply IsS65.drew | apply IsS65.set_1 | apply IsS65.set_2) | exact HI0.out)); (case side2 => repeat (first | (with_reducible first | exact HB.out | apply below_alloc | apply pw_below_drewN | apply below_drew1 | refine below_set ?_ (IsS65.ge HI0.out)) | exact HB.out)); rintro e w5 ⟨rfl, hi, hb, hk⟩; refine ⟨_, rfl, ?_⟩; replace HK := Aside0.mk (KeepBut.trans (by repeat (first | (with_reducible first | exact HK.out | apply KeepBut.set_ | apply keep_drewN | apply keep_drew | apply keep_alloc) | exact HK.out)) hk (.inl rfl)); replace HB := Aside0.mk (hb); replace HI0 := Aside0.mk (hi); clear hb hk hi) | ((with_reducible refine gate_dst (N := 6) rfl ?_); refine Kd.R_lit (Kd.int .i64) _ 3 ?hg (N := 6) ?hd (xs := ([(-1), 0, 20000, 20001, 4611686018427387904] : List Int)) (inner := [.int .i64 (-1), .int .i64 0, .int .i64 20000, .int .i64 20001, .int .i64 4611686018427387904]) (ok := fun _ => True) (okp := fun _ => True) ?hr ?hp (fun _ hk => hk) trivial (Below.refl _ _) (Nat.le_refl _) (by simp) ?_; (case hd => rfl); (case hg => rfl); (case hr => first | (go_simp; done) | (go_simp; rfl)); (case hp => exact (Reps.one (show Kd.M (Kd.int .i64) _ _ _ (-1) [.int .i64 (-1)] from rfl) (Reps.one (show Kd.M (Kd.int .i64) _ _ _ 0 [.int .i64 0] from rfl) (Reps.one (show Kd.M (Kd.int .i64) _ _ _ 20000 [.int .i64 20000] from rfl) (Reps.one (show Kd.M (Kd.int .i64) _ _ _ 20001 [.int .i64 20001] from rfl) (Reps.one (show Kd.M (Kd.int .i64) _ _ _ 4611686018427387904 [.int .i64 4611686018427387904] from rfl) (Reps.none _ _))))))); intro v208 w6 ho7 hb hg_ hnew_; clear hg_ hnew_; (first | rw [← Ny207.out] at ho7 | (simp only [Int.reduceToNat] at ho7; rw [← Ny207.out] at ho7)); have HO209 := Aside0.mk (Kd.R_lower ho7 (keep_size (w := w) (g := g) (row := none) (by repeat (first | (with_reducible first | exact HK.out | apply KeepBut.set_ | apply keep_drewN | apply keep_drew | apply keep_alloc) | exact HK.out)))); replace HK := Aside0.mk (KeepBut.trans (by repeat (first | (with_reducible first | exact HK.out | apply KeepBut.set_ | apply keep_drewN | apply keep_drew | apply keep_alloc) | exact HK.out)) (KeepBut.of_below hb g none) (.inl rfl)); replace HB := Aside0.mk (below_step (by repeat (first | (with_reducible first | exact HB.out | apply below_alloc | apply pw_below_drewN | apply below_drew1 | refine below_set ?_ (IsS65.ge HI0.out)) | exact HB.out)) hb); replace HI0 := Aside0.mk (IsS65.below (by repeat (first | (with_reducible first | exact HI0.out | apply IsS65.alloc | apply IsS65.drewN | apply IsS65.drew | apply IsS65.set_1 | apply IsS65.set_2) | exact HI0.out)) hb); clear hb ho7; obtain ⟨Ao8, co8, eo8⟩ := Kd.R_slice HO209.out; subst eo8) | (refine Gl 7 #[.pointer (some ⟨g, 0, none⟩), .slice Ao8 y207.length co8] Try.func114 ?_; (with_reducible refine (spec_l1Cur_among.calls g s0_0 t205 t206 _ _ y207 t210 t211 t212 w0 _ ?side1 ?side2 (Cm (Kd.R_reads' HO209.out).2.2) ((Kd.R_reads' HO209.out).2.1) ?side5 A4.out).mono ?_); (case side1 => repeat (first | (with_reducible first | exact HI0.out | apply IsS65.alloc | apply IsS65.drewN | apply IsS65.drew | apply IsS65.set_1 | apply IsS65.set_2) | exact HI0.out)); (case side2 => repeat (first | (with_reducible first | exact HB.out | apply below_alloc | apply pw_below_drewN | apply below_drew1 | refine below_set ?_ (IsS65.ge HI0.out)) | exact HB.out)); (case side5 => exact far_slice (IsS65.own_ne HI0.out HO209.out (by decide))); rintro e w9 ⟨rfl, hi, hb, hk⟩; refine ⟨_, rfl, ?_⟩; replace HO209 := Aside0.mk (Kd.R_mono (Kd.R_keep (IsS65.apart (show IsS65 w0 _ g s0_0 t205 t206 from by repeat (first | (with_reducible first | exact HI0.out | apply IsS65.alloc | apply IsS65.drewN | apply IsS65.drew | apply IsS65.set_1 | apply IsS65.set_2) | exact HI0.out)) (Rm HO209.out) (by decide)) hk (fun _ h => h.2)) (fun _ h => h.1)); replace HK := Aside0.mk (KeepBut.trans (by repeat (first | (with_reducible first | exact HK.out | apply KeepBut.set_ | apply keep_drewN | apply keep_drew | apply keep_alloc) | exact HK.out)) hk (.inl rfl)); replace HB := Aside0.mk (hb); replace HI0 := Aside0.mk (hi); clear hb hk hi))
   go_ret
   exact ⟨Re, by repeat (first | (with_reducible first | exact HI0.out | apply IsS65.alloc | apply IsS65.drewN | apply IsS65.drew | apply IsS65.set_1 | apply IsS65.set_2) | exact HI0.out), by repeat (first | (with_reducible first | exact HB.out | apply below_alloc | apply pw_below_drewN | apply below_drew1 | refine below_set ?_ (IsS65.ge HI0.out)) | exact HB.out), by repeat (first | (with_reducible first | exact HK.out | apply KeepBut.set_ | apply keep_drewN | apply keep_drew | apply keep_alloc) | exact HK.out)⟩
 replace H := Option.bind_eq_some_iff.mp H
 obtain ⟨⟨t213, t214, t215⟩, A100, H⟩ := H
 have A10 := Aside0.mk A100
 clear A100
 simp only [Option.some.injEq, Prod.mk.injEq] at H
 obtain ⟨rfl, rfl, rfl⟩ := H
 go_enter Try.func161, Try.ntmps161
 go_wp2_with (first | (refine Gl 4 #[.pointer (some ⟨g, 0, none⟩), .int .i64 12] Try.func124 ?_; (with_reducible refine (spec_l1Cur_one.calls g s0_0 s0_1 s0_2 12 false t205 t206 w0 _ ?side1 ?side2 A2.out).mono ?_); (case side1 => repeat (first | (with_reducible first | exact HI0.out | apply IsS65.alloc | apply IsS65.drewN | apply IsS65.drew | apply IsS65.set_1 | apply IsS65.set_2) | exact HI0.out)); (case side2 => repeat (first | (with_reducible first | exact HB.out | apply below_alloc | apply pw_below_drewN | apply below_drew1 | refine below_set ?_ (IsS65.ge HI0.out)) | exact HB.out)); rintro e w11 ⟨rfl, hi, hb, hk⟩; refine ⟨_, rfl, ?_⟩; replace HK := Aside0.mk (KeepBut.trans (by repeat (first | (with_reducible first | exact HK.out | apply KeepBut.set_ | apply keep_drewN | apply keep_drew | apply keep_alloc) | exact HK.out)) hk (.inl rfl)); replace HB := Aside0.mk (hb); replace HI0 := Aside0.mk (hi); clear hb hk hi) | (refine Gl 9 #[.pointer (some ⟨g, 0, none⟩), .int .i64 90] Try.func144 ?_; (with_reducible refine (spec_l1Cur_pick.calls g s0_0 t205 t206 90 t213 t214 t215 w0 _ ?side1 ?side2 A10.out).mono ?_); (case side1 => repeat (first | (with_reducible first | exact HI0.out | apply IsS65.alloc | apply IsS65.drewN | apply IsS65.drew | apply IsS65.set_1 | apply IsS65.set_2) | exact HI0.out)); (case side2 => repeat (first | (with_reducible first | exact HB.out | apply below_alloc | apply pw_below_drewN | apply below_drew1 | refine below_set ?_ (IsS65.ge HI0.out)) | exact HB.out)); rintro e w12 ⟨rfl, hi, hb, hk⟩; refine ⟨_, rfl, ?_⟩; replace HK := Aside0.mk (KeepBut.trans (by repeat (first | (with_reducible first | exact HK.out | apply KeepBut.set_ | apply keep_drewN | apply keep_drew | apply keep_alloc) | exact HK.out)) hk (.inl rfl)); replace HB := Aside0.mk (hb); replace HI0 := Aside0.mk (hi); clear hb hk hi))
 go_ret
 exact ⟨Re, by repeat (first | (with_reducible first | exact HI0.out | apply IsS65.alloc | apply IsS65.drewN | apply IsS65.drew | apply IsS65.set_1 | apply IsS65.set_2) | exact HI0.out), by repeat (first | (with_reducible first | exact HB.out | apply below_alloc | apply pw_below_drewN | apply below_drew1 | refine below_set ?_ (IsS65.ge HI0.out)) | exact HB.out), by repeat (first | (with_reducible first | exact HK.out | apply KeepBut.set_ | apply keep_drewN | apply keep_drew | apply keep_alloc) | exact HK.out)⟩

/-! ### spec_DrawGreedyChange: function 94 -/
def spec_DrawGreedyChange_in.f (k : Nat) (s0_0 : List Int) (s0_1 : Int) (s0_2 : Int) : Option (List Int × Int × Int × Int) := (spec_l1Cur_coins.f k s0_0 s0_1 s0_2).bind fun bt216 => ((spec_l1Cur_amount.f s0_0 bt216.2.1 bt216.2.2).bind fun bt221 => (some (bt216.1, bt221.1, bt221.2.1, bt221.2.2)))
def spec_DrawGreedyChange.f (k : Nat) (l0 : List Int) : Option (List Int × Int) := (spec_DrawGreedyChange_in.f k l0 0 0).bind fun t_ => some (t_.1, t_.2.1)
theorem spec_DrawGreedyChange.calls (k : Nat) (A0_ : Option Addr) (c0_ : Nat) (s0_0 : List Int) (r1 : List Int) (r2 : Int) (w0 : World) (hr0_ : Kd.C (Kd.int .u8) w0 A0_ s0_0.length s0_0) (hc0_ : s0_0.length ≤ c0_) (h : spec_DrawGreedyChange.f k s0_0 = some (r1, r2)) :
 Calls Try.prog 94 #[.slice A0_ s0_0.length c0_] w0 fun e w' => ∃ v0_ : Value, e = .returned (.tuple #[v0_, .int .i64 r2]) ∧ Kd.V (Kd.int .i64) 3 w' w0.heap.size (fun k_ => (w0.heap.size ≤ k_)) v0_ r1 ∧ Below w0.heap.size w0 w' := by
 unfold spec_DrawGreedyChange.f at h
 obtain ⟨tt_, h0_, h⟩ := Option.bind_eq_some_iff.1 h
 obtain ⟨y0_, y1_, r3, r4⟩ := tt_
 have h := (Option.some.inj h).symm
 simp only [Prod.mk.injEq] at h
 obtain ⟨e0_, e1_⟩ := h
 subst e0_
 subst e1_
 obtain ⟨s0_1, es1_⟩ : ∃ s_ : Int, s_ = 0 := ⟨_, rfl⟩
 obtain ⟨s0_2, es2_⟩ : ∃ s_ : Int, s_ = 0 := ⟨_, rfl⟩
 have h : spec_DrawGreedyChange_in.f k s0_0 s0_1 s0_2 = some (r1, r2, r3, r4) := by subst es1_ es2_; exact h0_
 clear h0_
 obtain ⟨g, hg_⟩ : ∃ g_, g_ = w0.heap.size := ⟨_, rfl⟩
 obtain ⟨w, hw_⟩ : ∃ w_, w_ = w0.alloc (.cells #[.slice A0_ s0_0.length c0_, .int .i64 0, .int .u64 0] 65) := ⟨_, rfl⟩
 have hI : IsS65 w0 w g s0_0 s0_1 s0_2 := by subst hw_; subst hg_; subst es1_; subst es2_; exact ⟨A0_, c0_, blk_new _ _, Nat.le_refl _, hr0_⟩
 have hB : Below w0.heap.size w0 w := by subst hw_; exact below_alloc (Below.refl _ _) _
 have HGW_ := Aside0.mk (And.intro hg_ hw_)
 have hle_ := hB.size
 clear hg_ hw_ es1_ es2_ hr0_ hc0_
 refine (show Calls Try.prog 94 #[.slice A0_ s0_0.length c0_] w0 (fun e w' => ∃ v0_ : Value, e = .returned (.tuple #[v0_, .int .i64 r2]) ∧ Kd.V (Kd.int .i64) 3 w' w.heap.size (fun k_ => (w.heap.size ≤ k_)) v0_ r1 ∧ IsS65 w0 w' g s0_0 r3 r4 ∧ Below w0.heap.size w0 w' ∧ KeepBut w w' g none) from ?_).mono (fun e w' hx_ => by obtain ⟨v0_, rfl, hx1_, hx2_, hx3_, hx4_⟩ := hx_; exact ⟨v0_, rfl, Kd.V_mono (Kd.V_lower hx1_ hle_) (fun k_ hk_ => Nat.le_trans hle_ hk_), hx3_⟩)
 clear hle_
 have HI0 := Aside0.mk hI
 have HK := Aside0.mk (KeepBut.refl w g none)
 have HL := Aside0.mk hB.size
 clear hI
 have HW0 := Aside0.mk hB.size
 have HB := Aside0.mk hB
 clear hB
 have H := h; unfold spec_DrawGreedyChange.f at H
 clear h
 replace H := Option.bind_eq_some_iff.mp H
 obtain ⟨⟨t216, t219, t220⟩, A20, H⟩ := H
 have A2 := Aside0.mk A20
 clear A20
 replace H := Option.bind_eq_some_iff.mp H
 obtain ⟨⟨t221, t222, t223⟩, A30, H⟩ := H
 have A3 := Aside0.mk A30
 clear A30
 simp only [Option.some.injEq, Prod.mk.injEq] at H
 obtain ⟨rfl, rfl, rfl, rfl⟩ := H
 go_enter Try.func94, Try.ntmps94
 go_upto_region 2 with (fail)
 (try simp only [Act.put, List.setIfInBounds_toArray, List.set_cons_zero, List.set_cons_succ])
 have hgw_ := HGW_.out
 rw [← hgw_.2, ← hgw_.1]
 clear hgw_
 go_wp2_with (first | (refine Gl 10 #[.pointer (some ⟨g, 0, none⟩)] Try.func113 ?_; (with_reducible refine (spec_l1Cur_coins.calls k g s0_0 s0_1 s0_2 t216 t219 t220 w0 _ ?side1 ?side2 A2.out).mono ?_); (case side1 => repeat (first | (with_reducible first | exact HI0.out | apply IsS65.alloc | apply IsS65.drewN | apply IsS65.drew | apply IsS65.set_1 | apply IsS65.set_2) | exact HI0.out)); (case side2 => repeat (first | (with_reducible first | exact HB.out | apply below_alloc | apply pw_below_drewN | apply below_drew1 | refine below_set ?_ (IsS65.ge HI0.out)) | exact HB.out)); rintro e w4 ⟨v217, rfl, ho0, hi, hb, hk⟩; refine ⟨_, rfl, ?_⟩; have HO218 := Aside0.mk (Kd.V_lower (Kd.V_mono (ok' := fun k_ => (w.heap.size ≤ k_) ∧ k_ ≠ g) ho0 (fun k_ hk_ => ⟨(Nat.le_trans (keep_size (w := w) (g := g) (row := none) (by repeat (first | (with_reducible first | exact HK.out | apply KeepBut.set_ | apply keep_drewN | apply keep_drew | apply keep_alloc) | exact HK.out))) hk_), (IsS65.fresh (by repeat (first | (with_reducible first | exact HI0.out | apply IsS65.alloc | apply IsS65.drewN | apply IsS65.drew | apply IsS65.set_1 | apply IsS65.set_2) | exact HI0.out)) k_ hk_)⟩)) (keep_size (w := w) (g := g) (row := none) (by repeat (first | (with_reducible first | exact HK.out | apply KeepBut.set_ | apply keep_drewN | apply keep_drew | apply keep_alloc) | exact HK.out)))); replace HK := Aside0.mk (KeepBut.trans (by repeat (first | (with_reducible first | exact HK.out | apply KeepBut.set_ | apply keep_drewN | apply keep_drew | apply keep_alloc) | exact HK.out)) hk (.inl rfl)); replace HB := Aside0.mk (hb); replace HI0 := Aside0.mk (hi); clear hb hk hi ho0) | (refine Gl 13 #[.pointer (some ⟨g, 0, none⟩)] Try.func161 ?_; (with_reducible refine (spec_l1Cur_amount.calls g s0_0 t219 t220 t221 t222 t223 w0 _ ?side1 ?side2 A3.out).mono ?_); (case side1 => repeat (first | (with_reducible first | exact HI0.out | apply IsS65.alloc | apply IsS65.drewN | apply IsS65.drew | apply IsS65.set_1 | apply IsS65.set_2) | exact HI0.out)); (case side2 => repeat (first | (with_reducible first | exact HB.out | apply below_alloc | apply pw_below_drewN | apply below_drew1 | refine below_set ?_ (IsS65.ge HI0.out)) | exact HB.out)); rintro e w5 ⟨rfl, hi, hb, hk⟩; refine ⟨_, rfl, ?_⟩; replace HO218 := Aside0.mk (Kd.V_mono (Kd.V_keep (Kd.V_mono (ok := fun k_ => (((w.heap.size ≤ k_)) ∧ k_ ≠ g)) (by (with_reducible repeat (first | apply Kd.V_alloc | apply Kd.V_drewN | apply Kd.V_drew)); exact HO218.out) (fun k_ hk_ => (⟨hk_, hk_.2⟩ : _ ∧ k_ ≠ g))) hk (fun _ h => h.2)) (fun _ h => h.1)); replace HK := Aside0.mk (KeepBut.trans (by repeat (first | (with_reducible first | exact HK.out | apply KeepBut.set_ | apply keep_drewN | apply keep_drew | apply keep_alloc) | exact HK.out)) hk (.inl rfl)); replace HB := Aside0.mk (hb); replace HI0 := Aside0.mk (hi); clear hb hk hi))
 go_ret2
 exact ⟨_, Re, by (with_reducible repeat (first | apply Kd.V_alloc | apply Kd.V_drewN | apply Kd.V_drew)); exact Kd.V_mono HO218.out (fun _ hk => hk.1), by repeat (first | (with_reducible first | exact HI0.out | apply IsS65.alloc | apply IsS65.drewN | apply IsS65.drew | apply IsS65.set_1 | apply IsS65.set_2) | exact HI0.out), by repeat (first | (with_reducible first | exact HB.out | apply below_alloc | apply pw_below_drewN | apply below_drew1 | refine below_set ?_ (IsS65.ge HI0.out)) | exact HB.out), by repeat (first | (with_reducible first | exact HK.out | apply KeepBut.set_ | apply keep_drewN | apply keep_drew | apply keep_alloc) | exact HK.out)⟩

/-! ### spec_DrawBestChange: function 8 -/
def spec_DrawBestChange.f (k : Nat) (l0 : List Int) : Option (List Int × Int) := (spec_DrawGreedyChange.f k l0).bind fun bt224 => (some (bt224.1, bt224.2))
theorem spec_DrawBestChange.calls (k : Nat) (A0 : Option Addr) (c0 : Nat) (l0 : List Int) (r1 : List Int) (r2 : Int) (w : World) (hr0 : Kd.C (Kd.int .u8) w A0 l0.length l0) (hc0 : l0.length ≤ c0) (h : spec_DrawBestChange.f k l0 = some (r1, r2)) :
 Calls Try.prog 8 #[.slice A0 l0.length c0] w fun e w' => ∃ v0_ : Value, e = .returned (.tuple #[v0_, .int .i64 r2]) ∧ Kd.V (Kd.int .i64) 3 w' w.heap.size (fun k_ => (w.heap.size ≤ k_)) v0_ r1 ∧ Below w.heap.size w w' := by
 have HR0 := Aside0.mk hr0
 have HC0 := Aside0.mk hc0
 clear hr0 hc0
 have HB := Aside0.mk (Below.refl w.heap.size w)
 have H := h; unfold spec_DrawBestChange.f at H
 clear h
 replace H := Option.bind_eq_some_iff.mp H
 obtain ⟨⟨t224, t227⟩, A20, H⟩ := H
 have A2 := Aside0.mk A20
 clear A20
 simp only [Option.some.injEq, Prod.mk.injEq] at H
 obtain ⟨rfl, rfl⟩ := H
 go_enter Try.func8, Try.ntmps8
 go_wp2_with (first | (refine Gl 5 #[.slice A0 l0.length c0] Try.func94 ?_; (with_reducible refine (spec_DrawGreedyChange.calls k _ _ l0 t224 t227 _ (Cm HR0.out) HC0.out A2.out).mono ?_); rintro e w3 ⟨v225, rfl, ho0, hb⟩; refine ⟨_, rfl, ?_⟩; have HO226 := Aside0.mk (Kd.V_lower (Kd.V_mono (ok' := fun k_ => (w.heap.size ≤ k_)) ho0 (fun k_ hk_ => (Nat.le_trans (below_size Ub) hk_))) (below_size Ub)); replace HB := Aside0.mk (below_step Ub hb); clear hb ho0))
 go_ret2
 exact ⟨_, Re, by (with_reducible repeat (first | apply Kd.V_alloc | apply Kd.V_drewN | apply Kd.V_drew)); exact HO226.out, Ub⟩

/-! ### impl_fewStamps: function 95 -/
mutual
def impl_fewStamps.l0 : Nat → List Int → Int → List Int → Int → Option (List Int)
 | 0, _, _, _, _ => none
 | k + 1, x0, x1, x5, x6 => if x6 ≤ x1 then (if 0 ≤ x6 then (if x6 < (x5.length : Int) then (impl_fewStamps.l1 k x0 x1 (x5.set (x6 : Int).toNat (wrap64 (x1 + 1))) x6 x0 (x0.length : Int) 0) else (none)) else (none)) else (some x5)
def impl_fewStamps.l1 : Nat → List Int → Int → List Int → Int → List Int → Int → Int → Option (List Int)
 | 0, _, _, _, _, _, _, _ => none
 | k + 1, x0, x1, x5, x6, x22, x23, x24 => if x24 < x23 then (if 0 ≤ x24 then (if x24 < (x22.length : Int) then (if (rd x22 x24) ≤ x6 then (if 0 ≤ x6 then (if x6 < (x5.length : Int) then (if 0 ≤ (wrap64 (x6 - (rd x22 x24))) then (if (wrap64 (x6 - (rd x22 x24))) < (x5.length : Int) then (impl_fewStamps.l1 k x0 x1 (x5.set (x6 : Int).toNat (mn (rd x5 x6) (wrap64 ((rd x5 (wrap64 (x6 - (rd x22 x24)))) + 1)))) x6 x22 x23 (wrap64 (x24 + 1))) else (none)) else (none)) else (none)) else (none)) else (impl_fewStamps.l1 k x0 x1 x5 x6 x22 x23 (wrap64 (x24 + 1)))) else (none)) else (none)) else (impl_fewStamps.l0 k x0 x1 x5 (wrap64 (x6 + 1)))
end
def impl_fewStamps.f (k : Nat) (l0 : List Int) (a1 : Int) : Option (List Int) := if 0 ≤ (wrap64 (a1 + 1)) then (if (wrap64 (a1 + 1) : Int).toNat ≤ 35184372088832 then (impl_fewStamps.l0 k l0 a1 (List.replicate (wrap64 (a1 + 1) : Int).toNat 0) 1) else (none)) else (none)
def impl_fewStamps.T10 : Bool × List (List Nat × List Nat) := (true, [([], []), ([], []), ([], []), ([], []), ([2, 3], [2, 3]), ([4], [4]), ([], []), ([], []), ([], []), ([7, 8], [7, 8]), ([6, 9], [6, 9]), ([10], [10]), ([11], [11]), ([5, 12], [5, 12]), ([0, 1, 0, 1, 2, 3, 4, 5, 6, 7, 8, 9, 10, 11, 12, 13], [0, 1]), ([14, 13, 0, 1, 2, 3, 4, 5, 6, 7, 8, 9, 10, 11, 12, 13], [13, 14])])
def impl_fewStamps.B10 : List Nat := [0, 0, 0, 0, 12, 28, 0, 0, 0, 384, 960, 1984, 4032, 8188, 16383, 32767]
theorem impl_fewStamps.tab10 : rtab .any (opsOf Try.f95 10) = impl_fewStamps.T10 := by kernel_rfl
theorem impl_fewStamps.bits10 : waitsOk impl_fewStamps.T10.2 impl_fewStamps.B10 = true := by kernel_rfl
theorem impl_fewStamps.calls (k : Nat) (A0 : Option Addr) (c0 : Nat) (l0 : List Int) (a1 : Int) (r : List Int) (w : World) (hr0 : Kd.C (Kd.int .i64) w A0 l0.length l0) (hc0 : l0.length ≤ c0) (h : impl_fewStamps.f k l0 a1 = some r) :
 Calls Try.prog 95 #[.slice A0 l0.length c0, .int .i64 a1] w fun e w' => ∃ v0_ : Value, e = .returned (v0_) ∧ Kd.R (Kd.int .i64) 3 w' w.heap.size (fun _ => True) v0_ r ∧ Below w.heap.size w w' := by
 have HR0 := Aside0.mk hr0
 have HC0 := Aside0.mk hc0
 clear hr0 hc0
 have HB := Aside0.mk (Below.refl w.heap.size w)
 have H := h; unfold impl_fewStamps.f at H
 clear h
 obtain ⟨ji3, hji3⟩ : ∃ j_ : Int, (wrap64 (a1 + 1)) = j_ := ⟨_, rfl⟩
 replace H : (if 0 ≤ (ji3) then (if (ji3 : Int).toNat ≤ 35184372088832 then (impl_fewStamps.l0 k l0 a1 (List.replicate (ji3 : Int).toNat 0) 1) else (none)) else (none)) = some r := by first | (rw [hji3] at H; exact H) | (simp only [hji3] at H ⊢; exact H)
 have hji3w : (IntKind.i64.wrap (a1 + 1)) = ji3 := (i64_w _).trans hji3
 replace H := Ic H; rcases H with ⟨c4, H⟩ | ⟨c4, H⟩
 · have c4b0 := eq_true c4
   have c4b1 := decide_eq_true c4
   clear c4
   replace H := Ip H; obtain ⟨c5, H⟩ := H
   have c5b0 := eq_true c5
   have c5b1 := decide_eq_true c5
   clear c5
   obtain ⟨y228, hy228⟩ : ∃ y_ : List Int, y_ = (List.replicate (ji3 : Int).toNat 0) := ⟨_, rfl⟩
   replace H : (impl_fewStamps.l0 k l0 a1 y228 1) = some r := by first | (rw [hy228]; with_reducible exact H) | (have H2_ := (Option.bind_some _ _).symm.trans H; rw [hy228]; with_reducible exact H2_) | (have H2_ := (Option.bind_some _ _).symm.trans H; with_reducible exact H2_) | with_reducible exact H | (rw [hy228]; exact H) | exact H
   have Ny228 := Aside0.mk hy228
   clear hy228
   have H' := Aside0.mk H
   clear H
   go_enter Try.func95, Try.ntmps95
   go_wp2_with (first | ((with_reducible refine gate_dst (N := 11) rfl ?_); refine Kd.R_make (Kd.int .i64) _ 3 rfl (N := 11) rfl 24 _ _ rfl ji3 rfl rfl Try.underlying24 (.int .i64 0) 8 info3 rfl (by decide) (by omega) 0 (ok := fun _ => True) (okp := fun _ => True) rfl (fun _ hk => hk) trivial (Oa) (Nat.le_trans (Nat.mul_le_mul_right _ (Oa : ji3.toNat ≤ 35184372088832)) (by omega)) (Below.refl _ _) (Nat.le_refl _) ?_; intro v229 w6 ho7 hb hg_ hnew_; clear hg_ hnew_; (first | rw [← Ny228.out] at ho7 | (simp only [Int.reduceToNat] at ho7; rw [← Ny228.out] at ho7)); have HO230 := Aside0.mk (Kd.R_lower ho7 (below_size Ub)); replace HB := Aside0.mk (below_step Ub hb); clear hb ho7))
   go_loopg [6] k (fun kq v6 w' => ∃ (x5_1 : List Int) (x6_1 : Int), v6 = .int .i64 x6_1 ∧ Aside0 (impl_fewStamps.l0 kq l0 a1 x5_1 x6_1 = some r) ∧ Aside0 (kq ≤ k) ∧ Aside0 (Kd.R (Kd.int .i64) 3 w' w.heap.size (fun _ => True) v229 x5_1) ∧ Aside0 (Below w.heap.size w w'))
   case atStart => exact ⟨(y228), (1), Rs, H', ⟨Nat.le_refl _⟩, ⟨Rm HO230.out⟩, ⟨Ub⟩⟩
   case round =>
    clear H'
    try clear c4
    try clear c4b0
    try clear c4b1
    try clear c5
    try clear c5b0
    try clear c5b1
    obtain ⟨x5_1, x6_1, rfl, HA, HK1, HO_5, HB⟩ := hrel
    cases gk with
    | zero => exact absurd HA.out (by simp [impl_fewStamps.l0])
    | succ k1 =>
     have H := HA.out
     clear HA
     simp only [impl_fewStamps.l0] at H
     replace H := Ic H; rcases H with ⟨c8, H⟩ | ⟨c8, H⟩
     · have c8b0 := decide_eq_true c8
       clear c8
       replace H := Ip H; obtain ⟨c9, H⟩ := H
       have c9b0 := decide_eq_true c9
       clear c9
       replace H := Ip H; obtain ⟨c10, H⟩ := H
       have c10b0 := decide_eq_true c10
       clear c10
       obtain ⟨y231, hy231⟩ : ∃ y_ : List Int, y_ = (x5_1.set (x6_1 : Int).toNat (wrap64 (a1 + 1))) := ⟨_, rfl⟩
       replace H : (impl_fewStamps.l1 k1 l0 a1 y231 x6_1 l0 (l0.length : Int) 0) = some r := by first | (rw [hy231]; with_reducible exact H) | (have H2_ := (Option.bind_some _ _).symm.trans H; rw [hy231]; with_reducible exact H2_) | (have H2_ := (Option.bind_some _ _).symm.trans H; with_reducible exact H2_) | with_reducible exact H | (rw [hy231]; exact H) | exact H
       have Ny231 := Aside0.mk hy231
       clear hy231
       have H' := Aside0.mk H
       clear H
       have p11 : 0 ≤ (x6_1 : Int) := Oa
       have q11 : (x6_1 : Int) < ((x5_1.length : Int) : Int) := Oa
       obtain ⟨go11, co11, eo11, gb11, gl11, cl11, HG11⟩ := Kd.R_form HO_5.out (by omega)
       (first | cases eo11 | (injection eo11 with ea_ en_ ec_; (first | subst ea_ | (injection ea_ with ea_; subst ea_)); subst ec_; clear en_))
       have GB11 := Aside0.mk gb11
       have GG11 := Aside0.mk HG11
       clear gb11 gl11 HG11
       obtain ⟨hx11_0, hf11_0⟩ := Kd.R_celln 0 HO_5.out (x6_1 : Int) p11 q11
       replace p11 := eq_true p11
       replace q11 := eq_true q11
       have HP12 := Kd.R_putg HO_5.out (x6_1 : Int) (wrap64 (a1 + 1))
       go_wp2_with (first | ((with_reducible refine gate_store (t := 3) (p := 21) rfl ?_); refine store_event (t := 3) (p := 21) (v := ?vo_w13) (w1 := (wr.setCell ⟨go11, (x6_1 : Int).toNat, none⟩ (.int .i64 (wrap64 (a1 + 1))))) ?hg ?ho ?hn ?hr ?_; (case ho => rfl); (case hg => rfl); (case hn => rfl); (case hr => first | (go_simp; done) | (go_simp; rfl)); intro w13 hw; have hg : wr.grownBy w13 (some go11) := (by rw [hw]; exact HP12.2); have hp_ : Kd.R (Kd.int .i64) 3 w13 w.heap.size (fun _ => True) (.slice (some ⟨go11, 0, none⟩) x5_1.length co11) y231 := (by rw [hw, Ny231.out]; exact HP12.1); clear HP12; replace HO_5 := Aside0.mk (hp_); replace HB := Aside0.mk ((by rw [hw]; exact below_set (HB.out) GB11.out : Below w.heap.size w w13)); clear hg hw hp_))
       go_loopg [24] k1 (fun kq v24 w' => ∃ (x5_2 : List Int) (x24_2 : Int), v24 = .int .i64 x24_2 ∧ Aside0 (impl_fewStamps.l1 kq l0 a1 x5_2 x6_1 l0 (l0.length : Int) x24_2 = some r) ∧ Aside0 (kq ≤ k1) ∧ Aside0 (Kd.R (Kd.int .i64) 3 w' w.heap.size (fun _ => True) (.slice (some ⟨go11, 0, none⟩) x5_1.length co11) x5_2) ∧ Aside0 (Below w.heap.size w w'))
       case atStart => exact ⟨(y231), (0), Rs, H', ⟨Nat.le_refl _⟩, ⟨Rm HO_5.out⟩, ⟨Ub⟩⟩
       case round =>
        clear H'
        try clear c4
        try clear c4b0
        try clear c4b1
        try clear c5
        try clear c5b0
        try clear c5b1
        try clear c8
        try clear c8b0
        try clear c9
        try clear c9b0
        try clear c10
        try clear c10b0
        try clear p11
        try clear q11
        try clear hx11_0
        try clear p11
        try clear q11
        obtain ⟨x5_2, x24_2, rfl, HA, HK2, HO_5, HB⟩ := hrel
        have hl5_2 := (Kd.R_reads' HO_5.out).1
        rw [hl5_2] at HO_5
        (try simp only [hl5_2])
        cases gk with
        | zero => exact absurd HA.out (by simp [impl_fewStamps.l1])
        | succ k2 =>
         have H := HA.out
         clear HA
         simp only [impl_fewStamps.l1] at H
         replace H := Ic H; rcases H with ⟨c14, H⟩ | ⟨c14, H⟩
         · have c14b0 := decide_eq_true c14
           clear c14
           replace H := Ip H; obtain ⟨c15, H⟩ := H
           have c15b0 := decide_eq_true c15
           clear c15
           replace H := Ip H; obtain ⟨c16, H⟩ := H
           have c16b0 := decide_eq_true c16
           clear c16
           replace H := Ic H; rcases H with ⟨c17, H⟩ | ⟨c17, H⟩
           · have c17b0 := decide_eq_true c17
             clear c17
             replace H := Ip H; obtain ⟨c18, H⟩ := H
             have c18b0 := decide_eq_true c18
             clear c18
             replace H := Ip H; obtain ⟨c19, H⟩ := H
             have c19b0 := decide_eq_true c19
             clear c19
             obtain ⟨ji20, hji20⟩ : ∃ j_ : Int, (wrap64 (x6_1 - (rd l0 x24_2))) = j_ := ⟨_, rfl⟩
             replace H : (if 0 ≤ (ji20) then (if (ji20) < (x5_2.length : Int) then (impl_fewStamps.l1 k2 l0 a1 (x5_2.set (x6_1 : Int).toNat (mn (rd x5_2 x6_1) (wrap64 ((rd x5_2 (ji20)) + 1)))) x6_1 l0 (l0.length : Int) (wrap64 (x24_2 + 1))) else (none)) else (none)) = some r := by first | (rw [hji20] at H; exact H) | (simp only [hji20] at H ⊢; exact H)
             have hji20w : (IntKind.i64.wrap (x6_1 - (rd l0 x24_2))) = ji20 := (i64_w _).trans hji20
             replace H := Ip H; obtain ⟨c21, H⟩ := H
             have c21b0 := decide_eq_true c21
             clear c21
             replace H := Ip H; obtain ⟨c22, H⟩ := H
             have c22b0 := decide_eq_true c22
             clear c22
             obtain ⟨ji23, hji23⟩ : ∃ j_ : Int, (mn (rd x5_2 x6_1) (wrap64 ((rd x5_2 (ji20)) + 1))) = j_ := ⟨_, rfl⟩
             replace H : (impl_fewStamps.l1 k2 l0 a1 (x5_2.set (x6_1 : Int).toNat (ji23)) x6_1 l0 (l0.length : Int) (wrap64 (x24_2 + 1))) = some r := by first | (rw [hji23] at H; exact H) | (simp only [hji23] at H ⊢; exact H)
             have hji23_ : (if (wrap64 ((rd x5_2 (ji20)) + 1)) < (rd x5_2 x6_1) then (wrap64 ((rd x5_2 (ji20)) + 1)) else (rd x5_2 x6_1)) = ji23 := hji23
             obtain ⟨y235, hy235⟩ : ∃ y_ : List Int, y_ = (x5_2.set (x6_1 : Int).toNat (ji23)) := ⟨_, rfl⟩
             replace H : (impl_fewStamps.l1 k2 l0 a1 y235 x6_1 l0 (l0.length : Int) (wrap64 (x24_2 + 1))) = some r := by first | (rw [hy235]; with_reducible exact H) | (have H2_ := (Option.bind_some _ _).symm.trans H; rw [hy235]; with_reducible exact H2_) | (have H2_ := (Option.bind_some _ _).symm.trans H; with_reducible exact H2_) | with_reducible exact H | (rw [hy235]; exact H) | exact H
             have Ny235 := Aside0.mk hy235
             clear hy235
             have H' := Aside0.mk H
             clear H
             obtain ⟨p232, q232, ad232, e232, hx232_0⟩ := Ai HR0.out x24_2
             cases e232
             replace hx232_0 := (HB.out.cell (World.block_lt_of_cell? w _ hx232_0)).trans hx232_0
             try go_wp2
             replace HO_5 := Aside0.mk (Kd.R_drew HO_5.out); replace HB := Aside0.mk (below_drew1 HB.out)
             have p233 : 0 ≤ (x6_1 : Int) := Oa
             have q233 : x6_1 < (x5_2.length : Int) := Oa
             obtain ⟨ad233, e233, hx233_0⟩ := Kd.at_int (Kd.R_reads' HO_5.out).2.2 x6_1 p233 q233
             obtain rfl : (⟨go11, 0, none⟩ : Addr) = ad233 := (by injection e233)
             (first | simp only [add_plain] at hx233_0 | simp only [add_at] at hx233_0 | simp only [Addr.add, Nat.zero_add] at hx233_0 | skip)
             replace p233 := eq_true p233
             replace q233 := eq_true q233
             have p234 : 0 ≤ ((ji20) : Int) := Oa
             have q234 : (ji20) < (x5_2.length : Int) := Oa
             obtain ⟨ad234, e234, hx234_0⟩ := Kd.at_int (Kd.R_reads' HO_5.out).2.2 (ji20) p234 q234
             obtain rfl : (⟨go11, 0, none⟩ : Addr) = ad234 := (by injection e234)
             (first | simp only [add_plain] at hx234_0 | simp only [add_at] at hx234_0 | simp only [Addr.add, Nat.zero_add] at hx234_0 | skip)
             replace p234 := eq_true p234
             replace q234 := eq_true q234
             have p24 : 0 ≤ (x6_1 : Int) := Oa
             have q24 : (x6_1 : Int) < ((x5_2.length : Int) : Int) := Oa
             obtain ⟨hx24_0, hf24_0⟩ := Kd.R_celln 0 HO_5.out (x6_1 : Int) p24 q24
             replace p24 := eq_true p24
             replace q24 := eq_true q24
             have HP26 := Kd.R_putn HO_5.out (x6_1 : Int) ji23
             rw [← Ny235.out] at HP26
             have HQ26 := Aside0.mk HP26
             clear HP26
             refine start_ (n := 16) (S := fun w' => w'.cell? ⟨go11, (x6_1).toNat, none⟩ = some (.int .i64 (rd x5_2 x6_1)) ∧ w'.cell? ⟨go11, ((ji20)).toNat, none⟩ = some (.int .i64 (rd x5_2 (ji20)))) (ds := [15]) #[false, false, false, false, false, false, false, false, false, false, false, false, false, false, false, false] (by kernel_rfl) rfl rfl ⟨hx233_0, hx234_0⟩ (fun hHeld => ?_); refine with_tabW impl_fewStamps.tab10 impl_fewStamps.bits10 (fun HT_ HW_ => ?_)
             generalize wr.drew = w25 at HO_5 HB HQ26 hf24_0 hx233_0 hx234_0 hx24_0 hHeld ⊢
             refine Pu 0 31 #[true, false, false, false, false, false, false, false, false, false, false, false, false, false, false, false] HT_.out ?_
             refine Pu 1 32 #[true, true, false, false, false, false, false, false, false, false, false, false, false, false, false, false] HT_.out ?_
             refine Pu 2 33 #[true, true, true, false, false, false, false, false, false, false, false, false, false, false, false, false] HT_.out ?_
             refine Pu 3 34 #[true, true, true, true, false, false, false, false, false, false, false, false, false, false, false, false] HT_.out ?_
             refine Pu 4 35 #[true, true, true, true, true, false, false, false, false, false, false, false, false, false, false, false] HT_.out ?_
             refine Pu 6 37 #[true, true, true, true, true, false, true, false, false, false, false, false, false, false, false, false] HT_.out ?_
             refine Pu 7 38 #[true, true, true, true, true, false, true, true, false, false, false, false, false, false, false, false] HT_.out ?_
             refine Pu 8 39 #[true, true, true, true, true, false, true, true, true, false, false, false, false, false, false, false] HT_.out ?_
             refine Pu 9 40 #[true, true, true, true, true, false, true, true, true, true, false, false, false, false, false, false] HT_.out ?_
             refine Pu 10 41 #[true, true, true, true, true, false, true, true, true, true, true, false, false, false, false, false] HT_.out ?_
             refine take_ (i := 5) (N := some 36) (v := ?_) (a' := ?_) #[true, true, true, true, true, true, true, true, true, true, true, false, false, false, false, false] rfl rfl (take_ofW HT_.out HW_.out (by kernel_rfl)) (fun _ _ _ h => h) (Or.inl ⟨by rfl, ?_⟩) hHeld ?_ ?_
             rotate_left
             · rintro w' ⟨s0, s1⟩
               go_simp
               with_reducible rfl
             rotate_left
             · simp only [Act.put, List.setIfInBounds_toArray, List.set_cons_zero, List.set_cons_succ, i64_w, i32_w]
               rfl
             refine take_ (i := 11) (N := some 42) (v := ?_) (a' := ?_) #[true, true, true, true, true, true, true, true, true, true, true, true, false, false, false, false] rfl rfl (take_ofW HT_.out HW_.out (by kernel_rfl)) (fun _ _ _ h => h) (Or.inl ⟨by rfl, ?_⟩) hHeld ?_ ?_
             rotate_left
             · rintro w' ⟨s0, s1⟩
               go_simp
               with_reducible rfl
             rotate_left
             · simp only [Act.put, List.setIfInBounds_toArray, List.set_cons_zero, List.set_cons_succ, i64_w, i32_w]
               rfl
             refine Pu 12 43 #[true, true, true, true, true, true, true, true, true, true, true, true, true, false, false, false] HT_.out ?_
             refine Pu 13 44 #[true, true, true, true, true, true, true, true, true, true, true, true, true, true, false, false] HT_.out ?_
             refine Pu 14 45 #[true, true, true, true, true, true, true, true, true, true, true, true, true, true, true, false] HT_.out ?_
             refine last_ (i := 15) (N := none) #[true, true, true, true, true, true, true, true, true, true, true, true, true, true, true, true] rfl rfl (one_of HT_.out (by kernel_rfl)) (by decide) (fun K hK => ?_)
             refine skip_ (w1 := ?_) (by rfl) rfl ?_ ?_
             rotate_left
             · go_simp
               rfl
             refine hK.out _ _ ?_
             clear hK K
             refine done_ (done_of HT_.out (by kernel_rfl)) ?_
             try go_wp2
             (try simp only [← hl5_2])
             go_roundg k2
             case measure => have := HK1.out; have := HK2.out; omega
             case rel => exact ⟨(y235), (wrap64 (x24_2 + 1)), Rs, H', ⟨by have := HK1.out; have := HK2.out; omega⟩, ⟨by (try simp only [hl5_2]); (with_reducible repeat (first | apply Kd.R_alloc | apply Kd.R_drewN | apply Kd.R_drew)); exact HQ26.out⟩, ⟨by repeat (first | (with_reducible first | exact HB.out | apply below_alloc | apply pw_below_drewN | apply below_drew1 | refine below_set ?_ GB11.out) | exact HB.out)⟩⟩
           have c17b0 := decide_eq_false c17
           clear c17
           have H' := Aside0.mk H
           clear H
           obtain ⟨p232, q232, ad232, e232, hx232_0⟩ := Ai HR0.out x24_2
           cases e232
           replace hx232_0 := (HB.out.cell (World.block_lt_of_cell? w _ hx232_0)).trans hx232_0
           go_wp2
           (try simp only [← hl5_2])
           go_roundg k2
           case measure => have := HK1.out; have := HK2.out; omega
           case rel => exact ⟨(x5_2), (wrap64 (x24_2 + 1)), Rs, H', ⟨by have := HK1.out; have := HK2.out; omega⟩, ⟨by (try simp only [hl5_2]); (with_reducible repeat (first | apply Kd.R_alloc | apply Kd.R_drewN | apply Kd.R_drew)); exact HO_5.out⟩, ⟨Ub⟩⟩
         have c14b0 := decide_eq_false c14
         clear c14
         have H' := Aside0.mk H
         clear H
         go_wp2
         (try simp only [← hl5_2])
         go_roundg k2
         case measure => have := HK1.out; have := HK2.out; omega
         case rel => exact ⟨(x5_2), (wrap64 (x6_1 + 1)), Rs, H', ⟨by have := HK1.out; have := HK2.out; omega⟩, ⟨by (try simp only [hl5_2]); (with_reducible repeat (first | apply Kd.R_alloc | apply Kd.R_drewN | apply Kd.R_drew)); exact HO_5.out⟩, ⟨Ub⟩⟩
     have c8b0 := decide_eq_false c8
     clear c8
     obtain rfl := Option.some.inj H
     go_wp2
     go_ret
     exact ⟨_, by first | rfl | (simp [errW_none, errW_some] <;> rfl) | (simp only [← hji3]; first | rfl | (simp [errW_none, errW_some] <;> rfl)) | (simp [*, errW_none, errW_some] <;> rfl), Rm HO_5.out, Ub⟩
 exact absurd H (by simp)

/-! ### impl_within: function 105 -/
def impl_within.f (a0 : Int) (a1 : Int) (a2 : Int) : Option (Bool) := if a1 ≤ a0 then (some (decide (a0 ≤ a2))) else (some false)
theorem impl_within.calls (a0 : Int) (a1 : Int) (a2 : Int) (r : Bool) (w : World) (h : impl_within.f a0 a1 a2 = some r) :
 Calls Try.prog 105 #[.int .i64 a0, .int .i64 a1, .int .i64 a2] w fun e w' => e = .returned (.bool r) ∧ Drawn0 w w' := by
 have H := h; unfold impl_within.f at H
 clear h
 replace H := Ic H; rcases H with ⟨c4, H⟩ | ⟨c4, H⟩
 · have c4b0 := decide_eq_true c4
   clear c4
   obtain rfl := Option.some.inj H
   go_enter Try.func105, Try.ntmps105
   go_wp2
   go_ret
   exact ⟨Rs, Dr⟩
 have c4b0 := decide_eq_false c4
 clear c4
 obtain rfl := Option.some.inj H
 go_enter Try.func105, Try.ntmps105
 go_wp2
 go_ret
 exact ⟨Rs, Dr⟩

/-! ### slices_IndexFunc_int_int: function 167 -/
-- GIVEN slices.IndexFunc[[]int,int] raw=1
/-- The first index at which p holds, or -1. -/
def gIdx (p : Int → Bool) (l : List Int) : Int := match l.findIdx? p with | some i => (i : Int) | none => -1
theorem gIdx_hit (p : Int → Bool) (l : List Int) (i : Int) (h0 : 0 ≤ i) (h1 : i < l.length) (hp : p (rd l i) = true) (hn : ∀ j : Int, 0 ≤ j → j < i → p (rd l j) = false) : gIdx p l = i := by
  have hl : i.toNat < l.length := by omega
  have e : l.findIdx? p = some i.toNat := by
    rw [List.findIdx?_eq_some_iff_getElem]
    refine ⟨hl, ?_, ?_⟩
    · have : rd l i = l[i.toNat] := by simp [rd, List.getD_eq_getElem?_getD, List.getElem?_eq_getElem hl]
      rw [← this]; exact hp
    · intro j hj
      have := hn (j : Int) (by omega) (by omega)
      have e2 : rd l (j : Int) = l[j] := by simp [rd, List.getD_eq_getElem?_getD, List.getElem?_eq_getElem (show j < l.length by omega)]
      rw [e2] at this
      simp [this]
  simp only [gIdx, e]; omega
theorem gIdx_miss (p : Int → Bool) (l : List Int) (hn : ∀ j : Int, 0 ≤ j → j < l.length → p (rd l j) = false) : gIdx p l = -1 := by
  have e : l.findIdx? p = none := by
    rw [List.findIdx?_eq_none_iff]
    intro x hx
    obtain ⟨j, hj, rfl⟩ := List.getElem_of_mem hx
    have := hn (j : Int) (by omega) (by omega)
    have e2 : rd l (j : Int) = l[j] := by simp [rd, List.getD_eq_getElem?_getD, List.getElem?_eq_getElem hj]
    rw [e2] at this
    exact this
  simp only [gIdx, e]

theorem gIdx_any (p : Int → Bool) (l : List Int) : l.any p = decide (0 ≤ gIdx p l) := by
  unfold gIdx
  cases h : l.findIdx? p with
  | none =>
    rw [List.findIdx?_eq_none_iff] at h
    simp only [show ¬ ((0 : Int) ≤ -1) by omega, decide_false, List.any_eq_false]
    intro x hx; simp [h x hx]
  | some i =>
    obtain ⟨h1, h2, _⟩ := List.findIdx?_eq_some_iff_getElem.1 h
    simp only [show (0 : Int) ≤ (i : Int) by omega, decide_true, List.any_eq_true]
    exact ⟨_, List.getElem_mem h1, h2⟩

def PredI (g : Nat) (lb : Array Value) (p : Int → Bool) (w : World) : Prop :=
  ∀ (W : World) (x : Int), Below w.heap.size w W → Calls Try.prog g (#[.int .i64 x] ++ lb) W fun e w' => e = .returned (.bool (p x)) ∧ Below w.heap.size w w'

set_option maxHeartbeats 2000000 in
theorem indexFunc_int (p : Int → Bool) (g : Nat) (lb : Array Value) (eg : ∀ args w, (callFunc g args).run Try.prog w = .ok (.enter g args) w) (A0 : Option Addr) (c0 : Nat) (l0 : List Int) (w : World) (hr0 : Kd.C (Kd.int .i64) w A0 l0.length l0) (hc0 : l0.length ≤ c0)
    (hp : PredI g lb p w) :
    Calls Try.prog 167 #[.slice A0 l0.length c0, .func (.func g) #[] lb] w fun e w' => e = .returned (.int .i64 (gIdx p l0)) ∧ Below w.heap.size w w' := by
  have HR0 := Aside0.mk hr0
  have HC0 := Aside0.mk hc0
  have hbig : l0.length ≤ 9223372036854775807 := hr0.2.1
  clear hr0 hc0
  go_enter Try.func167, Try.ntmps167
  go_wp2
  go_loopg [5, 8] l0.length (fun gg _ s8 wr => ∃ kk : Int, s8 = .int .i64 kk ∧ Aside0 (0 ≤ kk ∧ kk ≤ l0.length ∧ l0.length - kk ≤ gg) ∧ Aside0 (Below w.heap.size w wr) ∧ Aside0 (∀ j : Int, 0 ≤ j → j < kk → p (rd l0 j) = false))
  case atStart => exact ⟨0, by simp, ⟨by omega⟩, ⟨Below.refl _ w⟩, ⟨fun j hj hj' => by omega⟩⟩
  case round =>
    obtain ⟨kk, rfl, HK, HB, HA⟩ := hrel
    have ⟨hk0, hk1, hk2⟩ := HK.out
    by_cases hlt : kk < (l0.length : Int)
    · have hcall := hp wr (rd l0 kk) HB.out
      obtain ⟨ad, e1, hx⟩ := Kd.at_int (Kd.C_below HR0.out HB.out) kk hk0 hlt
      cases e1
      have hlt0 := decide_eq_true hlt
      have hlt1 := eq_true hlt
      have hk01 := eq_true hk0
      cases hq : p (rd l0 kk) with
      | true =>
        rw [hq] at hcall
        have HQ := Aside0.mk hq
        clear hq hp hk2 hk1
        go_wp2_with (go_at_fn g; refine hcall.mono ?_; rintro e w' ⟨rfl, hb'⟩)
        go_ret
        exact ⟨by rw [gIdx_hit p l0 kk hk0 hlt HQ.out HA.out]; rfl, hb'⟩
      | false =>
        rw [hq] at hcall
        have HQ := Aside0.mk hq
        clear hq hp hk2 hk1
        go_wp2_with (go_at_fn g; refine hcall.mono ?_; rintro e w' ⟨rfl, hb'⟩)
        go_roundg (gk - 1)
        case measure => have := HK.out; omega
        case rel =>
          have hK := HK.out
          refine ⟨kk + 1, (by first | rfl | rw [show wrap64 (kk + 1) = kk + 1 by unfold wrap64; omega]), ⟨by omega⟩, ⟨hb'⟩, ⟨fun j h0 h1 => ?_⟩⟩
          by_cases e : j = kk
          · rw [e]; exact HQ.out
          · exact HA.out j h0 (by omega)
    · have hlt0 := decide_eq_false hlt
      have hlt1 := eq_false hlt
      clear hp hk2
      go_wp2
      go_ret
      exact ⟨by rw [gIdx_miss p l0 (fun j h0 h1 => HA.out j h0 (by omega))]; rfl, HB.out⟩



/-! ### slices_ContainsFunc_int_int: function 162 -/
-- GIVEN slices.ContainsFunc[[]int,int] raw=1
theorem containsFunc_int (p : Int → Bool) (g : Nat) (lb : Array Value) (eg : ∀ args w, (callFunc g args).run Try.prog w = .ok (.enter g args) w) (A0 : Option Addr) (c0 : Nat) (l0 : List Int) (w : World) (hr0 : Kd.C (Kd.int .i64) w A0 l0.length l0) (hc0 : l0.length ≤ c0)
    (hp : PredI g lb p w) :
    Calls Try.prog 162 #[.slice A0 l0.length c0, .func (.func g) #[] lb] w fun e w' => e = .returned (.bool (l0.any p)) ∧ Below w.heap.size w w' := by
  go_enter Try.func162, Try.ntmps162
  go_wp2_with (go_at_call 167; refine (indexFunc_int p g lb eg A0 c0 l0 _ hr0 hc0 hp).mono ?_; rintro e w' ⟨rfl, hb'⟩)
  go_ret
  exact ⟨by rw [gIdx_any]; rfl, hb'⟩



/-! ### impl_areWithin: function 106 -/
-- GIVEN loop.example/g01305/impl.areWithin
theorem within_closure (x lo hi : Int) (aL aH : Addr) (w : World) (hL : w.cell? aL = some (.int .i64 lo)) (hH : w.cell? aH = some (.int .i64 hi)) :
    Calls Try.prog 163 #[.int .i64 x, .pointer (some aL), .pointer (some aH)] w fun e w' => e = .returned (.bool (!(decide (lo ≤ x) && decide (x ≤ hi)))) ∧ w = w' := by
  by_cases h1 : lo ≤ x
  · have e1 : decide (lo ≤ x) = true := decide_eq_true h1
    by_cases h2 : x ≤ hi
    · have e2 : decide (x ≤ hi) = true := decide_eq_true h2
      go_enter Try.func163, Try.ntmps163
      go_wp2
      go_ret
      exact ⟨by first | (simp; done) | (simp; omega), rfl⟩
    · have e2 : decide (x ≤ hi) = false := decide_eq_false h2
      go_enter Try.func163, Try.ntmps163
      go_wp2
      go_ret
      exact ⟨by first | (simp; done) | (simp; omega), rfl⟩
  · have e1 : decide (lo ≤ x) = false := decide_eq_false h1
    go_enter Try.func163, Try.ntmps163
    go_wp2
    go_ret
    exact ⟨by first | (simp; done) | (simp; omega), rfl⟩

def impl_areWithin.f (l0 : List Int) (a1 : Int) (a2 : Int) : Option (Bool) := some (l0.all fun x => decide (a1 ≤ x) && decide (x ≤ a2))
theorem impl_areWithin.calls (A0 : Option Addr) (c0 : Nat) (l0 : List Int) (a1 : Int) (a2 : Int) (r : Bool) (w : World) (hr0 : Kd.C (Kd.int .i64) w A0 l0.length l0) (hc0 : l0.length ≤ c0) (h : impl_areWithin.f l0 a1 a2 = some r) :
    Calls Try.prog 106 #[.slice A0 l0.length c0, .int .i64 a1, .int .i64 a2] w fun e w' => e = .returned (.bool r) ∧ Below w.heap.size w w' := by
  obtain rfl := Option.some.inj h
  clear h
  have HR0 := Aside0.mk hr0
  have hmf : ∀ (fn : Fn) (first cap : Array Value) (w : World), (Instr.makeFunc fn first cap).run Try.prog w = .ok (.func fn first cap) w := fun _ _ _ _ => rfl
  have hp : PredI 163 #[.pointer (some ⟨w.heap.size, 0, none⟩), .pointer (some ⟨w.heap.size + 1, 0, none⟩)] (fun x => !(decide (a1 ≤ x) && decide (x ≤ a2))) ((w.alloc (.cells #[.int .i64 a1] 3)).alloc (.cells #[.int .i64 a2] 3)) := by
    intro W x hb
    have c1 : W.cell? ⟨w.heap.size, 0, none⟩ = some (.int .i64 a1) := by rw [hb.cell (p := ⟨w.heap.size, 0, none⟩) (by simp; omega)]; simp
    have c2 : W.cell? ⟨w.heap.size + 1, 0, none⟩ = some (.int .i64 a2) := by rw [hb.cell (p := ⟨w.heap.size + 1, 0, none⟩) (by simp)]; simp
    refine (within_closure x a1 a2 _ _ W c1 c2).mono ?_
    rintro e w' ⟨rfl, rfl⟩
    exact ⟨rfl, hb⟩
  have hP := Aside0.mk hp
  clear hp
  go_enter Try.func106, Try.ntmps106
  go_wp2_with (go_at_call 162; refine (containsFunc_int _ 163 _ (enters_of Try.func163 (by kernel_rfl) rfl) A0 c0 l0 _ (Kd.C_below (Kd.C_below HR0.out ((Below.refl _ _).alloc (Nat.le_refl _) _)) ((Below.refl _ _).alloc (Nat.le_refl _) _)) hc0 hP.out).mono ?_; rintro e w' ⟨rfl, hb'⟩)
  go_ret
  refine ⟨?_, ?_⟩
  · first | rfl | (congr 2; rw [List.any_eq_not_all_not]; simp)
  · exact (((Below.refl _ _).alloc (Nat.le_refl _) _).alloc (by simp) _).trans (hb'.mono (by simp; omega))


end Go.Proofs.Ytjjajbgijncfoaa.PFnChangeGiven
