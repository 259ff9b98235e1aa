-- printed by wip/xp
import Derived.Test.YtgeoihhibglhgaaPFnPiecesHiddenx0
import Derived.Test.YtgeoihhibglhgaaPFnPiecesHiddenx5
import Derived.Test.YtgeoihhibglhgaaPFnPiecesHiddenx12
set_option maxHeartbeats 8000000
set_option maxRecDepth 100000
namespace Go.Proofs.Ytgeoihhibglhgaa.PFnPiecesHidden
open Go.RowKit Go.Proofs.YtgeoihhibglhgaaW.PrintWords Go.Proofs.YtgeoihhibglhgaaW.PrintLast Go.Proofs.YtgeoihhibglhgaaW.PrintMore Go.Proofs.Ytgeoihhibglhgaa.Xmv
attribute [local go_sem] max2_int min2_int max_two min_two max_three min_three max_four min_four
set_option linter.unusedVariables false
set_option linter.unusedSimpArgs false

/-! ### impl_Clue_223: function 223 -/
/-- A copy. -/
def impl_Clue_223.f (l0 : List (S58)) : Option (List (S58)) := if l0.length < 4398046511104 then (some l0) else (none)
theorem impl_Clue_223.calls (A0 : Option Addr) (c0 : Nat) (l0 : List (S58)) (r : List (S58)) (w : World) (hr0 : Kd.C k58 w A0 l0.length l0) (hc0 : l0.length ≤ c0) (h : impl_Clue_223.f l0 = some r) :
 Calls Try.prog 223 #[.slice A0 l0.length c0] w fun e w' => ∃ v0_ : Value, e = .returned (v0_) ∧ Kd.R k58 58 w' w.heap.size (fun _ => True) v0_ r ∧ Below w.heap.size w w' := by
 have HR0 := jA hr0
 have HB := jA (jU w.heap.size w)
 by_cases c2 : l0.length < 4398046511104
 · have H : l0 = r := by unfold impl_Clue_223.f at h; rw [if_pos c2] at h; exact jM h
   subst H
   clear h
   have LM := jA c2
   clear c2 hr0 hc0
   cases A0 with
   | none =>
    have hnil := fun W => Go.Lib.run_eql_slice_nil (P := Try.prog) W 50 58 none l0.length c0 0 0 Try.underlying50
    go_enter Try.func223, Try.ntmps223
    go_wp2
    go_ret
    have e0 : l0 = [] := by
     rcases l0 with _ | ⟨x, s⟩
     · rfl
     obtain ⟨ad, he, _⟩ := HR0.out.2.2 (by simp)
     cases he
    subst e0
    exact ⟨_, rfl, Kd.R_nil _ _ _ _ _, jU _ _⟩
   | some ad =>
    have hnil := fun W => Go.Lib.run_eql_slice_nil (P := Try.prog) W 50 58 (some ad) l0.length c0 0 0 Try.underlying50
    go_enter Try.func223, Try.ntmps223
    go_wp2_with (first | ((with_reducible refine gate_dst (N := 5) rfl ?_); refine Kd.R_lit k58 _ 58 ?hg (N := 5) ?hd (xs := ([] : List (S58))) (inner := []) (ok := fun _ => True) (okp := fun _ => True) ?hr ?hp (fun _ hk => hk) trivial (jU _ _) (jX _) (by simp) ?_; (case hd => rfl); (case hg => rfl); (case hr => first | (go_simp; done) | (go_simp; rfl)); (case hp => exact (Reps.none _ _)); intro v120 w3 ho4 hb hg_ hnew_; clear hg_ hnew_; have HO121 := jA (jf ho4 (jL Ub)); replace HB := jA (jB Ub hb); clear hb ho4) | ((with_reducible refine gate_builtin (b := .append) (xs := #[.tmp 5, .tmp 6]) rfl ?_); at_builtin; refine Kd.R_append_rows k58 (w0 := w) w.heap.size rfl (.tmp 5) (.tmp 6) 50 58 (.agg #[(.int .i64 0), (.int .i64 0), (.int .i64 0)]) 24 rfl Try.underlying50 info58 rfl (by decide) (by omega) v120 [] l0 _ _ _ (fun _ => True) (fun _ => False) rfl rfl ?aO ?aR (fun _ _ h => h) (fun _ h => h.elim) ?aF ?aB ?aS ?aL ?_; (case aR => repeat (first | exact (jY HR0.out HB.out) | (with_reducible refine Xc ?_))); (case aB => exact Ub); (case aF => exact (fun _ _ => trivial)); (case aO => exact (Rm HO121.out)); (case aS => exact (jL Ub)); (case aL => have := LM.out; simp; omega); intro v123 w5 ho hb hg hat; replace HB := jA (hb); have HO124 := jA (ho); clear HO121; clear ho hb hg hat))
    go_ret
    exact ⟨_, rfl, HO124.out, HB.out⟩
 unfold impl_Clue_223.f at h
 rw [if_neg c2] at h
 cases h


/-! ### impl_Clue_289: function 289 -/
-- USES delete
theorem delete_Clue (base g n cap i : Nat) (xs : List Value) (w : World) (HO : w.ownsRow base 58 3 (.slice (some ⟨g, 0, none⟩) n cap) n xs) (h1x : ∀ u ∈ xs, u.oneCell' = true) (hi : i < n) (hn : n ≤ 1000000000) :
 Calls Try.prog 289 #[.slice (some ⟨g, 0, none⟩) n cap, .int .i64 i, .int .i64 ((i : Int) + 1)] w fun e w' => e = .returned (.slice (some ⟨g, 0, none⟩) (n - 1) cap) ∧ w'.ownsRow base 58 3 (.slice (some ⟨g, 0, none⟩) (n - 1) cap) (n - 1) (xs.take (i * 3) ++ xs.drop ((i + 1) * 3)) ∧ w.grownBy w' (some g) := by
 obtain ⟨m, rfl⟩ : ∃ m, n = i + 1 + m := ⟨n - (i + 1), by omega⟩
 have HO' := jA HO
 clear HO
 have hi1 : (i : Int) < ((i + 1 + m : Nat) : Int) := by omega
 have hi2 : ((i : Int) + 1).toNat = i + 1 := by omega
 have hi3 : (i : Int) + 1 ≤ ((i + 1 + m : Nat) : Int) := by omega
 have hi4 : (0 : Int) ≤ (i : Int) + 1 := by omega
 have hi5 : (i : Int) ≤ (i : Int) + 1 := by omega
 have hi6 : ((i : Int) == (i : Int) + 1) = false := by simp; omega
 have hnc : i + 1 + m ≤ cap := by
  rcases HO'.out.2 with ⟨h, _⟩ | ⟨g', cap', cur, h, _, _, h2, _⟩
  · cases h
  injection h with h1 h3 h4; omega
 have hi7 : (i : Int) + 1 ≤ (i : Int) + 1 + (m : Int) := by omega
 have hnc3 : (i : Int) + 1 + (m : Int) ≤ (cap : Int) := by omega
 have hnc2 : ((i + 1 + m : Nat) : Int) ≤ (cap : Int) := by omega
 have hl : xs.length = (i + 1 + m) * 3 := HO'.out.1
 have e31 : (i + 1) * 3 = i * 3 + 3 := by omega
 have hcell : ∀ j, j < (i + 1 + m) * 3 → w.drew.cell? ⟨g, j, none⟩ = xs[j]? := by
  intro j hj
  have := HO'.out.cells (g := g) rfl j (xs[j]'(by omega)) (List.getElem?_eq_getElem (by omega))
  rw [add_plain] at this
  rw [List.getElem?_eq_getElem (by omega)]
  exact this
 obtain ⟨A, hA, hnews⟩ : ∃ A : Addr, (if cap = i + 1 then some (⟨g, 0, none⟩ : Addr) else some ⟨g, (i + 1) * 3, none⟩) = some A ∧ Aside0 (∀ j u, (xs.drop ((i + 1) * 3))[j]? = some u → w.drew.cell? (A.add j) = some u) := by
  by_cases h : cap = i + 1
  · refine ⟨⟨g, 0, none⟩, by simp [h], ⟨fun j u hu => ?_⟩⟩
    rw [List.getElem?_eq_none (by rw [List.length_drop, hl]; omega)] at hu
    cases hu
  refine ⟨⟨g, (i + 1) * 3, none⟩, by simp [h], ⟨fun j u hu => ?_⟩⟩
  have hj : j < (xs.drop ((i + 1) * 3)).length := (List.getElem?_eq_some_iff.1 hu).1
  rw [List.length_drop, hl] at hj
  rw [Addr.add_lit, hcell _ (by omega), ← hu, List.getElem?_drop]
 have s1 : Aside0 ((xs.drop ((i + 1) * 3)).length = m * 3) := ⟨by rw [List.length_drop, hl]; omega⟩
 have s2 : Aside0 (∀ u ∈ xs.drop ((i + 1) * 3), u.oneCell' = true) := ⟨fun u hu => h1x u (List.mem_of_mem_drop hu)⟩
 have hfz := own_frozen HO'.out
 have s3 : Aside0 (∀ j, j < (xs.drop ((i + 1) * 3)).length → (w.drew.cell? ⟨g, 0 + i * 3 + j, none⟩).isSome = true ∧ w.drew.frozen? ⟨g, 0 + i * 3 + j, none⟩ = false) := ⟨fun j hj => by
  rw [List.length_drop, hl] at hj
  rw [Nat.zero_add, hcell _ (by omega), List.getElem?_eq_getElem (by omega)]
  exact ⟨rfl, hfz _⟩⟩
 have hclr : (Builtin.clear_ #[50] 0 #[.slice (some ⟨g, (i + m) * 3, none⟩) (i + 1 + m - (i + m)) (cap - (i + m))]).run Try.prog (w.drew.setCells g (i * 3) (xs.drop ((i + 1) * 3))) = .ok (.tuple #[]) ((w.drew.setCells g (i * 3) (xs.drop ((i + 1) * 3))).setCells g ((i + m) * 3) [.int .i64 0, .int .i64 0, .int .i64 0]) := by
  rw [show i + 1 + m - (i + m) = 1 by omega]
  refine run_clear_one _ 50 58 0 (.agg #[.int .i64 0, .int .i64 0, .int .i64 0]) _ Try.underlying50 (fun _ => by kernel_rfl) (by kernel_rfl) (by simp [Value.oneCell']) g _ _ (fun j hj => ?_) (fun j hj => ?_)
  · refine World.isSome_setCells g _ _ _ _ ?_
    simp at hj
    rw [hcell _ (by omega), List.getElem?_eq_getElem (by omega)]
    rfl
  rw [World.frozen?_setCells]; exact hfz _
 (try simp only [Nat.mul_one] at hclr)
 have hic : i ≤ cap := by omega
 obtain ⟨i0, hi0, hzz⟩ := Option.map_eq_some_iff.1 info58
 simp only [Prod.mk.injEq] at hzz
 obtain ⟨hz0, hz1, hz2⟩ := hzz
 have HC := jA hcell
 have HL := jA hl
 clear hcell hl e31 h1x hfz
 go_enter Try.func289, Try.ntmps289
 go_wp2_with fail
 go_region_law (refine step_append_room rfl (.tmp 22) (.tmp 25) 50 rfl 58 i0 3 Try.underlying50 hi0 hz1 g 0 i cap (by simp [Act.eval, Act.put]) A m (cap - (i + 1)) (xs.drop ((i + 1) * 3)) (by first | (simp [Act.eval, Act.put]; done) | (simp [Act.eval, Act.put]; simpa using hA)) s1.out hnews.out s2.out (by omega) s3.out ?_)
 go_wp2_with fail
 all_goals go_ret
 all_goals
  have hcut := own_cut (sz := 3) (zs := [.int .i64 0, .int .i64 0, .int .i64 0]) (w := w.drew) (i := i) HO'.out (by omega) rfl
  rw [show i + 1 + m - 1 = i + m by omega] at hcut
  (try rw [show i + 1 + m - 1 = i + m by omega])
  (try simp only [Nat.mul_one] at hcut ⊢)
  first
   | exact ⟨rfl, hcut.1, ⟨hcut.2.os, hcut.2.tape, hcut.2.output, hcut.2.size, hcut.2.block⟩⟩
   | (rw [show cap = i + 1 by assumption] at hcut; exact ⟨rfl, hcut.1, ⟨hcut.2.os, hcut.2.tape, hcut.2.output, hcut.2.size, hcut.2.block⟩⟩)
theorem deleteR_Clue {base : Nat} {ok : Nat → Prop} {v : Value} {l : List (S58)} {i : Nat} {w : World} (HO : Kd.R k58 58 w base ok v l) (hi : i < l.length) (hn : l.length ≤ 1000000000) :
 Calls Try.prog 289 #[v, .int .i64 i, .int .i64 ((i : Int) + 1)] w fun e w' => ∃ v', e = .returned v' ∧ Kd.R k58 58 w' base ok v' (l.eraseIdx i) ∧ w.grownBy w' v.ownBlock := by
 obtain ⟨hok, inner, ho, hr⟩ := HO
 obtain ⟨g, cap, rfl, hb, hg⟩ := World.ownsRow.form ho (by omega)
 have h1 : ∀ u ∈ inner, u.oneCell' = true := by
  intro u hu
  obtain ⟨q, hq, rfl⟩ := List.getElem_of_mem hu
  have hq3 : q / k58.sz < l.length := (Nat.div_lt_iff_lt_mul (by decide)).2 (by rw [← hr.1]; exact hq)
  have := hr.2 (q / k58.sz) _ (List.getElem?_eq_getElem hq3)
  refine k58.K_one (k58.K_of_M this) _ ?_
  rw [List.mem_iff_getElem?]
  refine ⟨q % k58.sz, ?_⟩
  rw [List.getElem?_take_of_lt (Nat.mod_lt _ (by decide)), List.getElem?_drop, Nat.mul_comm, Nat.div_add_mod, List.getElem?_eq_getElem hq]
 refine (delete_Clue base g l.length cap i inner w ho h1 hi hn).mono ?_
 rintro e w' ⟨rfl, ho', hg'⟩
 refine ⟨_, rfl, ⟨fun k hk => hok k hk, _, ?_, reps_erase (hr.imp_ (fun _ _ hp => ?_)) hi⟩, hg'⟩
 · rw [List.length_eraseIdx_of_lt hi]; exact ho'
 exact Kd.M_grown hp hg' (fun k hk => hk.2)



/-! ### impl_dropped: function 224 -/
def impl_dropped.f (l0 : List (S58)) (a1 : Int) : Option (List (S58)) := if 0 ≤ a1 then (if a1 < (l0.length : Int) then (if l0.length ≤ 1000000 then some (l0.eraseIdx a1.toNat) else none) else none) else none
theorem impl_dropped.calls (A0 : Option Addr) (c0 : Nat) (l0 : List (S58)) (a1 : Int) (r : List (S58)) (w : World) (hr0 : Kd.C k58 w A0 l0.length l0) (hc0 : l0.length ≤ c0) (h : impl_dropped.f l0 a1 = some r) :
 Calls Try.prog 224 #[.slice A0 l0.length c0, .int .i64 a1] w fun e w' => ∃ v0_ : Value, e = .returned (v0_) ∧ Kd.R k58 58 w' w.heap.size (fun _ => True) v0_ r ∧ Below w.heap.size w w' := by
 unfold impl_dropped.f at h
 by_cases c1 : 0 ≤ a1
 · by_cases c2 : a1 < (l0.length : Int)
   · by_cases c3 : l0.length ≤ 1000000
     · rw [if_pos c1, if_pos c2, if_pos c3] at h
       obtain rfl := jM h
       obtain ⟨i, rfl⟩ := Int.eq_ofNat_of_zero_le c1
       have hi : i < l0.length := by omega
       have ha : (i : Int) + 1 ≤ 9223372036854775807 := by omega
       have HR := jA hr0
       have HH := jA hi
       have HL := jA c3
       have hf : impl_Clue_223.f l0 = some l0 := by unfold impl_Clue_223.f; rw [if_pos (by omega)]
       have HF := jA hf
       clear h c1 c2 hr0 hf hi c3
       go_enter Try.func224, Try.ntmps224
       go_wp2_with (first | (go_at_call 223; refine (impl_Clue_223.calls A0 c0 l0 l0 _ HR.out hc0 HF.out).mono ?_; rintro e w1 ⟨v1, rfl, ho, hb⟩) | (go_at_call 289; refine (deleteR_Clue ho HH.out (by have := HL.out; omega)).mono ?_; rintro e w2 ⟨v2, rfl, ho2, hg2⟩))
       go_ret
       obtain ⟨inner, ho'⟩ := Kd.R_own ho
       exact ⟨_, rfl, by rw [Int.toNat_natCast]; exact ho2, hb.grown hg2 hb.size (own_base ho')⟩
     rw [if_pos c1, if_pos c2, if_neg c3] at h; cases h
   rw [if_pos c1, if_neg c2] at h; cases h
 rw [if_neg c1] at h; cases h


/-! ### impl_HarderPuzzle: function 86 -/
def impl_HarderPuzzle.l0 : Nat → List (S58) → Int → Option ((List (S58)) × Bool)
 | 0, _, _ => none
 | k + 1, x6, x7 => if x7 < (x6.length : Int) then ((impl_dropped.f x6 x7).bind fun t448 => ((impl_solve.f k t448).bind fun t451 => (if (t451.length : Int) = 1 then (impl_HarderPuzzle.l0 k t448 x7) else (impl_HarderPuzzle.l0 k x6 (wrap64 (x7 + 1)))))) else (some (x6, true))
def impl_HarderPuzzle.f (k : Nat) (l0_0 : List (S58)) : Option ((List (S58)) × Bool) := (impl_IsSolved.f k l0_0).bind fun bt443 => (if bt443.1 = true then ((impl_Clue_223.f l0_0).bind fun t445 => (impl_HarderPuzzle.l0 k t445 0)) else (some (([] : List (S58)), false)))
theorem impl_HarderPuzzle.calls (k : Nat) (A0_0 : Option Addr) (c0_0 : Nat) (l0_0 : List (S58)) (r1 : List (S58)) (r2 : Bool) (w : World) (hr0_0 : Kd.C k58 w A0_0 l0_0.length l0_0) (hc0_0 : l0_0.length ≤ c0_0) (h : impl_HarderPuzzle.f k l0_0 = some (r1, r2)) :
 Calls Try.prog 86 #[.agg #[.slice A0_0 l0_0.length c0_0]] w fun e w' => ∃ v0_ : Value, e = .returned (.tuple #[.agg #[v0_], .bool r2]) ∧ Kd.R k58 58 w' w.heap.size (fun _ => True) v0_ r1 ∧ Below w.heap.size w w' := by
 have hu52 := Try.underlying52
 have HR0_0 := jA hr0_0
 have HC0_0 := jA hc0_0
 clear hr0_0 hc0_0
 have HB := jA (jU w.heap.size w)
 have H := h; unfold impl_HarderPuzzle.f at H
 clear h
 replace H := jD H
 obtain ⟨⟨t443, t444⟩, A20, H⟩ := H
 have A2 := jA A20
 clear A20
 replace H := Iw H; rcases H with ⟨rfl, H⟩ | ⟨rfl, H⟩
 · replace H := jD H
   obtain ⟨t445, A40, H⟩ := H
   have A4 := jA A40
   clear A40
   have H' := jA H
   clear H
   go_enter Try.func86, Try.ntmps86
   go_wp2_with (first | ((with_reducible refine gate_dst (N := 1) rfl ?_); refine box_event ?hg (N := 1) ?hd (cs := #[.slice A0_0 l0_0.length c0_0]) (t := 52) ?hr ?_; (case hd => rfl); (case hg => rfl); (case hr => first | (go_simp; done) | (go_simp; rfl)); intro gb441 hg w5 hbox hb; have BK441 := jA (hbox); have GW441 := jA ((by rw [hg]; exact (jL Ub) : w.heap.size ≤ gb441)); have GE441 := jA ((by rw [hg]; exact (jL Ub) : w.heap.size ≤ gb441)); replace HB := jA (jB Ub hb); clear hb hbox hg) | ((with_reducible refine gate_dst (N := 2) rfl ?_); refine box_event ?hg (N := 2) ?hd (cs := #[.slice none 0 0]) (t := 52) ?hr ?_; (case hd => rfl); (case hg => rfl); (case hr => first | (go_simp; done) | (go_simp; rfl)); intro gb442 hg w6 hbox hb; have BK442 := jA (hbox); have GW442 := jA ((by rw [hg]; exact (jL Ub) : w.heap.size ≤ gb442)); have GE442 := jA ((by rw [hg]; exact (jL Ub) : w.heap.size ≤ gb442)); replace HB := jA (jB Ub hb); have NB441_442 := jA ((by rw [hg]; exact jZ (blk_lt (g := gb441) (o := .cells #[.slice A0_0 l0_0.length c0_0] 52 (0, 0)) (Bm BK441.out)) : gb441 ≠ gb442)); have NB442_441 := jA ((by rw [hg]; exact ja (blk_lt (g := gb441) (o := .cells #[.slice A0_0 l0_0.length c0_0] 52 (0, 0)) (Bm BK441.out)) : gb442 ≠ gb441)); replace BK441 := jA (jN (g := gb441) (o := .cells #[.slice A0_0 l0_0.length c0_0] 52 (0, 0)) (Bm BK441.out) hb); clear hb hbox hg; have hnb7 := NB441_442.out; have hnc7 := NB442_441.out; have hcz8_0 : w6.cell? ⟨gb441, 0, none⟩ = some (.slice A0_0 l0_0.length c0_0) := (jE BK441.out 0).trans rfl; have hfz8_0 := jF BK441.out 0) | (refine Gl 11 #[.agg #[.slice A0_0 l0_0.length c0_0]] Try.func88 ?_; (with_reducible refine (impl_IsSolved.calls k _ _ l0_0 true t444 _ (Cm (jY HR0_0.out HB.out)) HC0_0.out A2.out).mono ?_); rintro e w9 ⟨rfl, hb⟩; refine ⟨_, rfl, ?_⟩; replace BK441 := jA (jN (g := gb441) (o := .cells #[.slice A0_0 l0_0.length c0_0] 52 (0, 0)) (Bm BK441.out) hb); replace BK442 := jA (jN (g := gb442) (o := .cells #[.slice none 0 0] 52 (0, 0)) (Bm BK442.out) hb); replace HB := jA (jB Ub hb); clear hb; have hcz10_0 : w9.cell? ⟨gb441, 0, none⟩ = some (.slice A0_0 l0_0.length c0_0) := (jE BK441.out 0).trans rfl; have hfz10_0 := jF BK441.out 0) | (refine Gl 19 #[.slice A0_0 l0_0.length c0_0] Try.func223 ?_; (with_reducible refine (impl_Clue_223.calls _ _ l0_0 t445 _ (Cm (jY HR0_0.out HB.out)) HC0_0.out A4.out).mono ?_); rintro e w11 ⟨v446, rfl, ho0, hb⟩; refine ⟨_, rfl, ?_⟩; have HO447 := jA (jf ho0 (jL Ub)); replace BK441 := jA (jN (g := gb441) (o := .cells #[.slice A0_0 l0_0.length c0_0] 52 (0, 0)) (Bm BK441.out) hb); replace BK442 := jA (jN (g := gb442) (o := .cells #[.slice none 0 0] 52 (0, 0)) (Bm BK442.out) hb); replace HB := jA (jB Ub hb); clear hb ho0))
   go_loopg [6, 7] k (fun kq v6 v7 w' => ∃ (x6_1 : List (S58)) (x7_1 : Int), v7 = .int .i64 x7_1 ∧ Aside0 (impl_HarderPuzzle.l0 kq x6_1 x7_1 = some (r1, r2)) ∧ Aside0 (kq ≤ k) ∧ Aside0 (Kd.R k58 58 w' w.heap.size (fun _ => True) v6 x6_1) ∧ Aside0 (w'.heap[gb441]? = some (.cells #[(.slice A0_0 l0_0.length c0_0)] 52 (0, 0))) ∧ Aside0 (w'.heap[gb442]? = some (.cells #[(.slice none 0 0)] 52 (0, 0))) ∧ Aside0 (Below w.heap.size w w'))
   case atStart => exact ⟨(t445), (0), Rs, H', ⟨jX _⟩, ⟨Rm HO447.out⟩, ⟨Bm BK441.out⟩, ⟨Bm BK442.out⟩, ⟨Ub⟩⟩
   case round =>
    clear H'
    try clear hcz10_0
    try clear hcz8_0
    try clear hfz10_0
    try clear hfz8_0
    obtain ⟨x6_1, x7_1, rfl, HA, HK1, HO_6, BK441, BK442, HB⟩ := hrel
    cases gk with
    | zero => exact absurd HA.out (by simp [impl_HarderPuzzle.l0])
    | succ k1 =>
     have H := HA.out
     clear HA
     simp only [impl_HarderPuzzle.l0] at H
     replace H := Ic H; rcases H with ⟨c12, H⟩ | ⟨c12, H⟩
     · have c12b0 := jK c12
       clear c12
       replace H := jD H
       obtain ⟨t448, A130, H⟩ := H
       have A13 := jA A130
       clear A130
       replace H := jD H
       obtain ⟨t451, A140, H⟩ := H
       have A14 := jA A140
       clear A140
       replace H := Ic H; rcases H with ⟨c15, H⟩ | ⟨c15, H⟩
       · have c15b0 : ((t451.length : Int) == 1) = true := beq_iff_eq.mpr c15
         have c15b1 := bne_eq_false_iff_eq.mpr c15
         clear c15
         have H' := jA H
         clear H
         obtain ⟨Ao16, co16, eo16⟩ := jq HO_6.out
         subst eo16
         go_wp2_with (first | (refine Gl 26 #[.slice Ao16 x6_1.length co16, .int .i64 x7_1] Try.func224 ?_; (with_reducible refine (impl_dropped.calls _ _ x6_1 x7_1 t448 _ (Cm (Kd.R_reads' HO_6.out).2.2) ((Kd.R_reads' HO_6.out).2.1) A13.out).mono ?_); rintro e w17 ⟨v449, rfl, ho0, hb⟩; refine ⟨_, rfl, ?_⟩; have HO450 := jA (jf (Kd.R_new' ho0 (jr (Rm HO_6.out))) (jL Ub)); replace HO_6 := jA (Kd.R_elder' (Rm HO_6.out) (Kd.R_base ho0) hb); replace BK441 := jA (jN (g := gb441) (o := .cells #[.slice A0_0 l0_0.length c0_0] 52 (0, 0)) (Bm BK441.out) hb); replace BK442 := jA (jN (g := gb442) (o := .cells #[.slice none 0 0] 52 (0, 0)) (Bm BK442.out) hb); replace HB := jA (jB Ub hb); clear hb ho0; obtain ⟨Ao18, co18, eo18⟩ := jq HO450.out; subst eo18) | (refine Gl 28 #[.slice Ao18 t448.length co18] Try.func225 ?_; (with_reducible refine (impl_solve.calls k1 _ _ t448 t451 _ (Cm (Kd.R_reads' HO450.out).2.2) ((Kd.R_reads' HO450.out).2.1) A14.out).mono ?_); rintro e w19 ⟨v452, rfl, ho0, hb⟩; refine ⟨_, rfl, ?_⟩; replace HO_6 := jA (Kd.R_below (Rm HO_6.out) hb); replace HO450 := jA (Kd.R_below (Rm HO450.out) hb); have HO453 := jA (Kd.S_lower ho0 (jL Ub)); replace BK441 := jA (jN (g := gb441) (o := .cells #[.slice A0_0 l0_0.length c0_0] 52 (0, 0)) (Bm BK441.out) hb); replace BK442 := jA (jN (g := gb442) (o := .cells #[.slice none 0 0] 52 (0, 0)) (Bm BK442.out) hb); replace HB := jA (jB Ub hb); clear hb ho0; obtain ⟨Ao20, co20, eo20⟩ := Kd.S_slice HO453.out; subst eo20))
         go_roundg k1
         case measure => have := HK1.out; omega
         case rel => exact ⟨(t448), (x7_1), Rs, H', ⟨by have := HK1.out; omega⟩, ⟨by (with_reducible repeat apply Xq); exact jW HO450.out (fun _ hk => trivial)⟩, ⟨Bm BK441.out⟩, ⟨Bm BK442.out⟩, ⟨Ub⟩⟩
       have c15b0 : ((t451.length : Int) == 1) = false := beq_eq_false_iff_ne.mpr c15
       have c15b1 := bne_iff_ne.mpr c15
       have H' := jA H
       clear H
       obtain ⟨Ao21, co21, eo21⟩ := jq HO_6.out
       subst eo21
       go_wp2_with (first | (refine Gl 26 #[.slice Ao21 x6_1.length co21, .int .i64 x7_1] Try.func224 ?_; (with_reducible refine (impl_dropped.calls _ _ x6_1 x7_1 t448 _ (Cm (Kd.R_reads' HO_6.out).2.2) ((Kd.R_reads' HO_6.out).2.1) A13.out).mono ?_); rintro e w22 ⟨v449, rfl, ho0, hb⟩; refine ⟨_, rfl, ?_⟩; have HO450 := jA (jf (Kd.R_new' ho0 (jr (Rm HO_6.out))) (jL Ub)); replace HO_6 := jA (Kd.R_elder' (Rm HO_6.out) (Kd.R_base ho0) hb); replace BK441 := jA (jN (g := gb441) (o := .cells #[.slice A0_0 l0_0.length c0_0] 52 (0, 0)) (Bm BK441.out) hb); replace BK442 := jA (jN (g := gb442) (o := .cells #[.slice none 0 0] 52 (0, 0)) (Bm BK442.out) hb); replace HB := jA (jB Ub hb); clear hb ho0; obtain ⟨Ao23, co23, eo23⟩ := jq HO450.out; subst eo23) | (refine Gl 28 #[.slice Ao23 t448.length co23] Try.func225 ?_; (with_reducible refine (impl_solve.calls k1 _ _ t448 t451 _ (Cm (Kd.R_reads' HO450.out).2.2) ((Kd.R_reads' HO450.out).2.1) A14.out).mono ?_); rintro e w24 ⟨v452, rfl, ho0, hb⟩; refine ⟨_, rfl, ?_⟩; replace HO_6 := jA (Kd.R_below (Rm HO_6.out) hb); replace HO450 := jA (Kd.R_below (Rm HO450.out) hb); have HO453 := jA (Kd.S_lower ho0 (jL Ub)); replace BK441 := jA (jN (g := gb441) (o := .cells #[.slice A0_0 l0_0.length c0_0] 52 (0, 0)) (Bm BK441.out) hb); replace BK442 := jA (jN (g := gb442) (o := .cells #[.slice none 0 0] 52 (0, 0)) (Bm BK442.out) hb); replace HB := jA (jB Ub hb); clear hb ho0; obtain ⟨Ao25, co25, eo25⟩ := Kd.S_slice HO453.out; subst eo25))
       go_roundg k1
       case measure => have := HK1.out; omega
       case rel => exact ⟨(x6_1), (wrap64 (x7_1 + 1)), Rs, H', ⟨by have := HK1.out; omega⟩, ⟨by (with_reducible repeat apply Xq); exact jW HO_6.out (fun _ hk => trivial)⟩, ⟨Bm BK441.out⟩, ⟨Bm BK442.out⟩, ⟨Ub⟩⟩
     have c12b0 := jV c12
     clear c12
     simp only [Option.some.injEq, Prod.mk.injEq] at H
     obtain ⟨rfl, rfl⟩ := H
     obtain ⟨Ao26, co26, eo26⟩ := jq HO_6.out
     subst eo26
     have hnb27 := NB442_441.out
     have hnc27 := NB441_442.out
     have hcz28_0 : wr.cell? ⟨gb442, 0, none⟩ = some (.slice none 0 0) := (jE BK442.out 0).trans rfl
     have hfz28_0 := jF BK442.out 0
     go_wp2
     refine bodyPost_ret (results_ct rfl _ _ gb442 52 #[.slice Ao26 x6_1.length co26] (0, 0) _ rfl (by (with_reducible repeat refine Xg ?_); refine jp (cs := #[.slice none 0 0]) ?_ 0 _ rfl; (with_reducible repeat refine Xg ?_); exact BK442.out) Try.underlying52 rfl (by kernel_rfl)) rfl ?_
     exact ⟨_, Re, by (with_reducible repeat apply Xq); exact jW (jg (p := ⟨gb442, 0, none⟩) (jm HO_6.out BK442.out (by decide)) (fun _ hk => hk.2) (.slice Ao26 x6_1.length co26)) (fun _ hk => trivial), Ub⟩
 simp only [Option.some.injEq, Prod.mk.injEq] at H
 obtain ⟨rfl, rfl⟩ := H
 go_enter Try.func86, Try.ntmps86
 go_wp2_with (first | ((with_reducible refine gate_dst (N := 1) rfl ?_); refine box_event ?hg (N := 1) ?hd (cs := #[.slice A0_0 l0_0.length c0_0]) (t := 52) ?hr ?_; (case hd => rfl); (case hg => rfl); (case hr => first | (go_simp; done) | (go_simp; rfl)); intro gb441 hg w29 hbox hb; have BK441 := jA (hbox); have GW441 := jA ((by rw [hg]; exact (jL Ub) : w.heap.size ≤ gb441)); have GE441 := jA ((by rw [hg]; exact (jL Ub) : w.heap.size ≤ gb441)); replace HB := jA (jB Ub hb); clear hb hbox hg) | ((with_reducible refine gate_dst (N := 2) rfl ?_); refine box_event ?hg (N := 2) ?hd (cs := #[.slice none 0 0]) (t := 52) ?hr ?_; (case hd => rfl); (case hg => rfl); (case hr => first | (go_simp; done) | (go_simp; rfl)); intro gb442 hg w30 hbox hb; have BK442 := jA (hbox); have GW442 := jA ((by rw [hg]; exact (jL Ub) : w.heap.size ≤ gb442)); have GE442 := jA ((by rw [hg]; exact (jL Ub) : w.heap.size ≤ gb442)); replace HB := jA (jB Ub hb); have NB441_442 := jA ((by rw [hg]; exact jZ (blk_lt (g := gb441) (o := .cells #[.slice A0_0 l0_0.length c0_0] 52 (0, 0)) (Bm BK441.out)) : gb441 ≠ gb442)); have NB442_441 := jA ((by rw [hg]; exact ja (blk_lt (g := gb441) (o := .cells #[.slice A0_0 l0_0.length c0_0] 52 (0, 0)) (Bm BK441.out)) : gb442 ≠ gb441)); replace BK441 := jA (jN (g := gb441) (o := .cells #[.slice A0_0 l0_0.length c0_0] 52 (0, 0)) (Bm BK441.out) hb); clear hb hbox hg; have hnb31 := NB441_442.out; have hnc31 := NB442_441.out; have hcz32_0 : w30.cell? ⟨gb441, 0, none⟩ = some (.slice A0_0 l0_0.length c0_0) := (jE BK441.out 0).trans rfl; have hfz32_0 := jF BK441.out 0) | (refine Gl 11 #[.agg #[.slice A0_0 l0_0.length c0_0]] Try.func88 ?_; (with_reducible refine (impl_IsSolved.calls k _ _ l0_0 false t444 _ (Cm (jY HR0_0.out HB.out)) HC0_0.out A2.out).mono ?_); rintro e w33 ⟨rfl, hb⟩; refine ⟨_, rfl, ?_⟩; replace BK441 := jA (jN (g := gb441) (o := .cells #[.slice A0_0 l0_0.length c0_0] 52 (0, 0)) (Bm BK441.out) hb); replace BK442 := jA (jN (g := gb442) (o := .cells #[.slice none 0 0] 52 (0, 0)) (Bm BK442.out) hb); replace HB := jA (jB Ub hb); clear hb; have hcz34_0 : w33.cell? ⟨gb442, 0, none⟩ = some (.slice none 0 0) := (jE BK442.out 0).trans rfl; have hfz34_0 := jF BK442.out 0))
 refine bodyPost_ret (results_ct rfl _ _ gb442 52 #[.slice none 0 0] (0, 0) _ rfl (by (with_reducible repeat refine Xg ?_); refine jp (cs := #[.slice none 0 0]) ?_ 0 _ rfl; (with_reducible repeat refine Xg ?_); exact BK442.out) Try.underlying52 rfl (by kernel_rfl)) rfl ?_
 exact ⟨_, Re, Nl, Ub⟩

/-! ### spec_pzClue: function 231 -/
def spec_pzClue.j0 : Nat → Int → Bool → Int → Int → Int → Option (Bool)
 | 0, _, _, _, _, _ => none
 | k + 1, x4, x15, x455000, x455001, x455002 => if x15 = true then ((spec_l1In.f x455001 0 24).bind fun t456 => (if t456 = true then (some (x455002 == 0)) else (some false))) else (if x4 = 2 then ((spec_l1In.f x455001 0 24).bind fun t457 => (if t457 = true then ((spec_l1In.f x455002 0 1).bind fun t458 => (some t458)) else (some false))) else (if x4 = 4 then ((spec_l1In.f x455001 0 24).bind fun t459 => (if t459 = true then ((spec_l1In.f x455002 0 16).bind fun t460 => (some t460)) else (some false))) else (if x4 = 5 then ((spec_l1In.f x455001 1 6).bind fun t461 => (if t461 = true then ((spec_l1In.f x455002 0 4).bind fun t462 => (some t462)) else (some false))) else (some false))))
def spec_pzClue.f (k : Nat) (a0_0 : Int) (a0_1 : Int) (a0_2 : Int) : Option (Bool) := if a0_0 = 0 then ((spec_l1In.f a0_1 0 4).bind fun t455 => (if t455 = true then (some (a0_2 == 0)) else (some false))) else (if a0_0 = 1 then (spec_pzClue.j0 k a0_0 (a0_0 == 1) a0_0 a0_1 a0_2) else (spec_pzClue.j0 k a0_0 (a0_0 == 3) a0_0 a0_1 a0_2))
theorem spec_pzClue.calls (k : Nat) (a0_0 : Int) (a0_1 : Int) (a0_2 : Int) (r : Bool) (w : World) (h : spec_pzClue.f k a0_0 a0_1 a0_2 = some r) :
 Calls Try.prog 231 #[.agg #[.int .i64 a0_0, .int .i64 a0_1, .int .i64 a0_2]] w fun e w' => e = .returned (.bool r) ∧ Below w.heap.size w w' := by
 have hu58 := Try.underlying58
 have HB := jA (jU w.heap.size w)
 have H := h; unfold spec_pzClue.f at H
 clear h
 replace H := Ic H; rcases H with ⟨c2, H⟩ | ⟨c2, H⟩
 · have c2b0 : (a0_0 == 0) = true := beq_iff_eq.mpr c2
   have c2b1 := bne_eq_false_iff_eq.mpr c2
   clear c2
   replace H := jD H
   obtain ⟨t455, A30, H⟩ := H
   have A3 := jA A30
   clear A30
   replace H := Iw H; rcases H with ⟨rfl, H⟩ | ⟨rfl, H⟩
   · obtain rfl := jM H
     go_enter Try.func231, Try.ntmps231
     go_wp2_with (first | ((with_reducible refine gate_dst (N := 1) rfl ?_); refine box_event ?hg (N := 1) ?hd (cs := #[.int .i64 a0_0, .int .i64 a0_1, .int .i64 a0_2]) (t := 58) ?hr ?_; (case hd => rfl); (case hg => rfl); (case hr => first | (go_simp; done) | (go_simp; rfl)); intro gb454 hg w5 hbox hb; have BK454 := jA (hbox); have GW454 := jA ((by rw [hg]; exact (jL Ub) : w.heap.size ≤ gb454)); have GE454 := jA ((by rw [hg]; exact (jL Ub) : w.heap.size ≤ gb454)); replace HB := jA (jB Ub hb); clear hb hbox hg; have hcz6_0 : w5.cell? ⟨gb454, 0, none⟩ = some (.int .i64 a0_0) := (jE BK454.out 0).trans rfl; have hcz6_1 : w5.cell? ⟨gb454, 1, none⟩ = some (.int .i64 a0_1) := (jE BK454.out 1).trans rfl; have hcz6_2 : w5.cell? ⟨gb454, 2, none⟩ = some (.int .i64 a0_2) := (jE BK454.out 2).trans rfl; have hfz6_0 := jF BK454.out 0; have hfz6_1 := jF BK454.out 1; have hfz6_2 := jF BK454.out 2) | (refine Gl 9 #[.int .i64 a0_1, .int .i64 0, .int .i64 4] Try.func193 ?_; (with_reducible refine (spec_l1In.calls a0_1 0 4 true _ A3.out).mono ?_); rintro e w' ⟨rfl, ⟨nd, rfl⟩⟩; refine ⟨_, rfl, ?_⟩))
     go_ret
     exact ⟨Re, Ub⟩
   obtain rfl := jM H
   go_enter Try.func231, Try.ntmps231
   go_wp2_with (first | ((with_reducible refine gate_dst (N := 1) rfl ?_); refine box_event ?hg (N := 1) ?hd (cs := #[.int .i64 a0_0, .int .i64 a0_1, .int .i64 a0_2]) (t := 58) ?hr ?_; (case hd => rfl); (case hg => rfl); (case hr => first | (go_simp; done) | (go_simp; rfl)); intro gb454 hg w7 hbox hb; have BK454 := jA (hbox); have GW454 := jA ((by rw [hg]; exact (jL Ub) : w.heap.size ≤ gb454)); have GE454 := jA ((by rw [hg]; exact (jL Ub) : w.heap.size ≤ gb454)); replace HB := jA (jB Ub hb); clear hb hbox hg; have hcz8_0 : w7.cell? ⟨gb454, 0, none⟩ = some (.int .i64 a0_0) := (jE BK454.out 0).trans rfl; have hcz8_1 : w7.cell? ⟨gb454, 1, none⟩ = some (.int .i64 a0_1) := (jE BK454.out 1).trans rfl; have hcz8_2 : w7.cell? ⟨gb454, 2, none⟩ = some (.int .i64 a0_2) := (jE BK454.out 2).trans rfl; have hfz8_0 := jF BK454.out 0; have hfz8_1 := jF BK454.out 1; have hfz8_2 := jF BK454.out 2) | (refine Gl 9 #[.int .i64 a0_1, .int .i64 0, .int .i64 4] Try.func193 ?_; (with_reducible refine (spec_l1In.calls a0_1 0 4 false _ A3.out).mono ?_); rintro e w' ⟨rfl, ⟨nd, rfl⟩⟩; refine ⟨_, rfl, ?_⟩))
   go_ret
   exact ⟨Re, Ub⟩
 have c2b0 : (a0_0 == 0) = false := beq_eq_false_iff_ne.mpr c2
 have c2b1 := bne_iff_ne.mpr c2
 have HC9 := jA H
 clear H
 go_enter Try.func231, Try.ntmps231
 go_upto_if 15 with (first | ((with_reducible refine gate_dst (N := 1) rfl ?_); refine box_event ?hg (N := 1) ?hd (cs := #[.int .i64 a0_0, .int .i64 a0_1, .int .i64 a0_2]) (t := 58) ?hr ?_; (case hd => rfl); (case hg => rfl); (case hr => first | (go_simp; done) | (go_simp; rfl)); intro gb454 hg w10 hbox hb; have BK454 := jA (hbox); have GW454 := jA ((by rw [hg]; exact (jL Ub) : w.heap.size ≤ gb454)); have GE454 := jA ((by rw [hg]; exact (jL Ub) : w.heap.size ≤ gb454)); replace HB := jA (jB Ub hb); clear hb hbox hg; have hcz11_0 : w10.cell? ⟨gb454, 0, none⟩ = some (.int .i64 a0_0) := (jE BK454.out 0).trans rfl; have hcz11_1 : w10.cell? ⟨gb454, 1, none⟩ = some (.int .i64 a0_1) := (jE BK454.out 1).trans rfl; have hcz11_2 : w10.cell? ⟨gb454, 2, none⟩ = some (.int .i64 a0_2) := (jE BK454.out 2).trans rfl; have hfz11_0 := jF BK454.out 0; have hfz11_1 := jF BK454.out 1; have hfz11_2 := jF BK454.out 2))
 (try simp only [Act.put, List.setIfInBounds_toArray, List.set_cons_zero, List.set_cons_succ])
 go_cut [15] (fun v15 wc => ∃ (kq : Nat) (x15_8 : Bool), v15 = .bool x15_8 ∧ Aside0 (spec_pzClue.j0 kq a0_0 x15_8 a0_0 a0_1 a0_2 = some r) ∧ Aside0 (kq ≤ k) ∧ Aside0 (wc.heap[gb454]? = some (.cells #[.int .i64 a0_0, .int .i64 a0_1, .int .i64 a0_2] 58 (0, 0))) ∧ Aside0 (Below w.heap.size w wc))
 case first =>
  have H := HC9.out
  clear HC9
  replace H := Ic H; rcases H with ⟨c12, H⟩ | ⟨c12, H⟩
  · have c12b0 : (a0_0 == 1) = true := beq_iff_eq.mpr c12
    have c12b1 := bne_eq_false_iff_eq.mpr c12
    clear c12
    (first | rw [c12b0] | (simp only [i64_w, i32_w]; rw [c12b0]) | skip)
    have H' := jA H
    clear H
    go_wp2
    go_meet
    case rel => exact ⟨_, ((a0_0 == 1)), Rs, H', ⟨by first | omega | exact jX _⟩, ⟨Bm BK454.out⟩, ⟨Ub⟩⟩
  have c12b0 : (a0_0 == 1) = false := beq_eq_false_iff_ne.mpr c12
  have c12b1 := bne_iff_ne.mpr c12
  (first | rw [c12b0] | (simp only [i64_w, i32_w]; rw [c12b0]) | skip)
  have H' := jA H
  clear H
  go_wp2
  go_meet
  case rel => exact ⟨_, ((a0_0 == 3)), Rs, H', ⟨by first | omega | exact jX _⟩, ⟨Bm BK454.out⟩, ⟨Ub⟩⟩
 case rest =>
  clear HC9
  try clear c2
  try clear c2b0
  try clear c2b1
  try clear c12
  try clear c12b0
  try clear c12b1
  try clear hcz11_0
  try clear hcz11_1
  try clear hcz11_2
  try clear hcz6_0
  try clear hcz6_1
  try clear hcz6_2
  try clear hcz8_0
  try clear hcz8_1
  try clear hcz8_2
  try clear hfz11_0
  try clear hfz11_1
  try clear hfz11_2
  try clear hfz6_0
  try clear hfz6_1
  try clear hfz6_2
  try clear hfz8_0
  try clear hfz8_1
  try clear hfz8_2
  obtain ⟨kq, x15_8, rfl, HA, HJ8, BK454, HB⟩ := hcut
  cases kq with
  | zero => exact absurd HA.out (by simp [spec_pzClue.j0])
  | succ kj8 =>
   have H := HA.out
   clear HA
   simp only [spec_pzClue.j0] at H
   by_cases c13 : x15_8 = true
   · subst c13
     have H1 : ((spec_l1In.f a0_1 0 24).bind fun t456 => (if t456 = true then (some (a0_2 == 0)) else (some false))) = some r := by rw [if_pos rfl] at H; exact H
     clear H
     have H := H1
     clear H1
     replace H := jD H
     obtain ⟨t456, A140, H⟩ := H
     have A14 := jA A140
     clear A140
     replace H := Iw H; rcases H with ⟨rfl, H⟩ | ⟨rfl, H⟩
     · obtain rfl := jM H
       have hcz16_0 : wc.cell? ⟨gb454, 0, none⟩ = some (.int .i64 a0_0) := (jE BK454.out 0).trans rfl
       have hcz16_1 : wc.cell? ⟨gb454, 1, none⟩ = some (.int .i64 a0_1) := (jE BK454.out 1).trans rfl
       have hcz16_2 : wc.cell? ⟨gb454, 2, none⟩ = some (.int .i64 a0_2) := (jE BK454.out 2).trans rfl
       have hfz16_0 := jF BK454.out 0
       have hfz16_1 := jF BK454.out 1
       have hfz16_2 := jF BK454.out 2
       go_wp2_with (first | (refine Gl 20 #[.int .i64 a0_1, .int .i64 0, .int .i64 24] Try.func193 ?_; (with_reducible refine (spec_l1In.calls a0_1 0 24 true _ A14.out).mono ?_); rintro e w' ⟨rfl, ⟨nd, rfl⟩⟩; refine ⟨_, rfl, ?_⟩))
       go_ret
       exact ⟨Re, Ub⟩
     obtain rfl := jM H
     have hcz17_0 : wc.cell? ⟨gb454, 0, none⟩ = some (.int .i64 a0_0) := (jE BK454.out 0).trans rfl
     have hcz17_1 : wc.cell? ⟨gb454, 1, none⟩ = some (.int .i64 a0_1) := (jE BK454.out 1).trans rfl
     have hcz17_2 : wc.cell? ⟨gb454, 2, none⟩ = some (.int .i64 a0_2) := (jE BK454.out 2).trans rfl
     have hfz17_0 := jF BK454.out 0
     have hfz17_1 := jF BK454.out 1
     have hfz17_2 := jF BK454.out 2
     go_wp2_with (first | (refine Gl 20 #[.int .i64 a0_1, .int .i64 0, .int .i64 24] Try.func193 ?_; (with_reducible refine (spec_l1In.calls a0_1 0 24 false _ A14.out).mono ?_); rintro e w' ⟨rfl, ⟨nd, rfl⟩⟩; refine ⟨_, rfl, ?_⟩))
     go_ret
     exact ⟨Re, Ub⟩
   replace c13 := Bool.eq_false_iff.mpr c13
   subst c13
   have H1 : (if a0_0 = 2 then ((spec_l1In.f a0_1 0 24).bind fun t457 => (if t457 = true then ((spec_l1In.f a0_2 0 1).bind fun t458 => (some t458)) else (some false))) else (if a0_0 = 4 then ((spec_l1In.f a0_1 0 24).bind fun t459 => (if t459 = true then ((spec_l1In.f a0_2 0 16).bind fun t460 => (some t460)) else (some false))) else (if a0_0 = 5 then ((spec_l1In.f a0_1 1 6).bind fun t461 => (if t461 = true then ((spec_l1In.f a0_2 0 4).bind fun t462 => (some t462)) else (some false))) else (some false)))) = some r := by rw [if_neg (show ¬ (false = true) by decide)] at H; exact H
   clear H
   have H := H1
   clear H1
   replace H := Ic H; rcases H with ⟨c18, H⟩ | ⟨c18, H⟩
   · have c18b0 : (a0_0 == 2) = true := beq_iff_eq.mpr c18
     have c18b1 := bne_eq_false_iff_eq.mpr c18
     clear c18
     replace H := jD H
     obtain ⟨t457, A190, H⟩ := H
     have A19 := jA A190
     clear A190
     replace H := Iw H; rcases H with ⟨rfl, H⟩ | ⟨rfl, H⟩
     · replace H := jD H
       obtain ⟨t458, A210, H⟩ := H
       have A21 := jA A210
       clear A210
       obtain rfl := jM H
       have hcz22_0 : wc.cell? ⟨gb454, 0, none⟩ = some (.int .i64 a0_0) := (jE BK454.out 0).trans rfl
       have hcz22_1 : wc.cell? ⟨gb454, 1, none⟩ = some (.int .i64 a0_1) := (jE BK454.out 1).trans rfl
       have hcz22_2 : wc.cell? ⟨gb454, 2, none⟩ = some (.int .i64 a0_2) := (jE BK454.out 2).trans rfl
       have hfz22_0 := jF BK454.out 0
       have hfz22_1 := jF BK454.out 1
       have hfz22_2 := jF BK454.out 2
       go_wp2_with (first | (refine Gl 30 #[.int .i64 a0_1, .int .i64 0, .int .i64 24] Try.func193 ?_; (with_reducible refine (spec_l1In.calls a0_1 0 24 true _ A19.out).mono ?_); rintro e w' ⟨rfl, ⟨nd, rfl⟩⟩; refine ⟨_, rfl, ?_⟩) | (go_at_call 193; (with_reducible refine (spec_l1In.calls a0_2 0 1 t458 _ A21.out).mono ?_); rintro e w' ⟨rfl, ⟨nd, rfl⟩⟩))
       go_ret
       exact ⟨Re, Ub⟩
     obtain rfl := jM H
     have hcz23_0 : wc.cell? ⟨gb454, 0, none⟩ = some (.int .i64 a0_0) := (jE BK454.out 0).trans rfl
     have hcz23_1 : wc.cell? ⟨gb454, 1, none⟩ = some (.int .i64 a0_1) := (jE BK454.out 1).trans rfl
     have hcz23_2 : wc.cell? ⟨gb454, 2, none⟩ = some (.int .i64 a0_2) := (jE BK454.out 2).trans rfl
     have hfz23_0 := jF BK454.out 0
     have hfz23_1 := jF BK454.out 1
     have hfz23_2 := jF BK454.out 2
     go_wp2_with (first | (refine Gl 30 #[.int .i64 a0_1, .int .i64 0, .int .i64 24] Try.func193 ?_; (with_reducible refine (spec_l1In.calls a0_1 0 24 false _ A19.out).mono ?_); rintro e w' ⟨rfl, ⟨nd, rfl⟩⟩; refine ⟨_, rfl, ?_⟩))
     go_ret
     exact ⟨Re, Ub⟩
   have c18b0 : (a0_0 == 2) = false := beq_eq_false_iff_ne.mpr c18
   have c18b1 := bne_iff_ne.mpr c18
   replace H := Ic H; rcases H with ⟨c24, H⟩ | ⟨c24, H⟩
   · have c24b0 : (a0_0 == 4) = true := beq_iff_eq.mpr c24
     have c24b1 := bne_eq_false_iff_eq.mpr c24
     clear c24
     replace H := jD H
     obtain ⟨t459, A250, H⟩ := H
     have A25 := jA A250
     clear A250
     replace H := Iw H; rcases H with ⟨rfl, H⟩ | ⟨rfl, H⟩
     · replace H := jD H
       obtain ⟨t460, A270, H⟩ := H
       have A27 := jA A270
       clear A270
       obtain rfl := jM H
       have hcz28_0 : wc.cell? ⟨gb454, 0, none⟩ = some (.int .i64 a0_0) := (jE BK454.out 0).trans rfl
       have hcz28_1 : wc.cell? ⟨gb454, 1, none⟩ = some (.int .i64 a0_1) := (jE BK454.out 1).trans rfl
       have hcz28_2 : wc.cell? ⟨gb454, 2, none⟩ = some (.int .i64 a0_2) := (jE BK454.out 2).trans rfl
       have hfz28_0 := jF BK454.out 0
       have hfz28_1 := jF BK454.out 1
       have hfz28_2 := jF BK454.out 2
       go_wp2_with (first | (refine Gl 40 #[.int .i64 a0_1, .int .i64 0, .int .i64 24] Try.func193 ?_; (with_reducible refine (spec_l1In.calls a0_1 0 24 true _ A25.out).mono ?_); rintro e w' ⟨rfl, ⟨nd, rfl⟩⟩; refine ⟨_, rfl, ?_⟩) | (go_at_call 193; (with_reducible refine (spec_l1In.calls a0_2 0 16 t460 _ A27.out).mono ?_); rintro e w' ⟨rfl, ⟨nd, rfl⟩⟩))
       go_ret
       exact ⟨Re, Ub⟩
     obtain rfl := jM H
     have hcz29_0 : wc.cell? ⟨gb454, 0, none⟩ = some (.int .i64 a0_0) := (jE BK454.out 0).trans rfl
     have hcz29_1 : wc.cell? ⟨gb454, 1, none⟩ = some (.int .i64 a0_1) := (jE BK454.out 1).trans rfl
     have hcz29_2 : wc.cell? ⟨gb454, 2, none⟩ = some (.int .i64 a0_2) := (jE BK454.out 2).trans rfl
     have hfz29_0 := jF BK454.out 0
     have hfz29_1 := jF BK454.out 1
     have hfz29_2 := jF BK454.out 2
     go_wp2_with (first | (refine Gl 40 #[.int .i64 a0_1, .int .i64 0, .int .i64 24] Try.func193 ?_; (with_reducible refine (spec_l1In.calls a0_1 0 24 false _ A25.out).mono ?_); rintro e w' ⟨rfl, ⟨nd, rfl⟩⟩; refine ⟨_, rfl, ?_⟩))
     go_ret
     exact ⟨Re, Ub⟩
   have c24b0 : (a0_0 == 4) = false := beq_eq_false_iff_ne.mpr c24
   have c24b1 := bne_iff_ne.mpr c24
   replace H := Ic H; rcases H with ⟨c30, H⟩ | ⟨c30, H⟩
   · have c30b0 : (a0_0 == 5) = true := beq_iff_eq.mpr c30
     have c30b1 := bne_eq_false_iff_eq.mpr c30
     clear c30
     replace H := jD H
     obtain ⟨t461, A310, H⟩ := H
     have A31 := jA A310
     clear A310
     replace H := Iw H; rcases H with ⟨rfl, H⟩ | ⟨rfl, H⟩
     · replace H := jD H
       obtain ⟨t462, A330, H⟩ := H
       have A33 := jA A330
       clear A330
       obtain rfl := jM H
       have hcz34_0 : wc.cell? ⟨gb454, 0, none⟩ = some (.int .i64 a0_0) := (jE BK454.out 0).trans rfl
       have hcz34_1 : wc.cell? ⟨gb454, 1, none⟩ = some (.int .i64 a0_1) := (jE BK454.out 1).trans rfl
       have hcz34_2 : wc.cell? ⟨gb454, 2, none⟩ = some (.int .i64 a0_2) := (jE BK454.out 2).trans rfl
       have hfz34_0 := jF BK454.out 0
       have hfz34_1 := jF BK454.out 1
       have hfz34_2 := jF BK454.out 2
       go_wp2_with (first | (refine Gl 50 #[.int .i64 a0_1, .int .i64 1, .int .i64 6] Try.func193 ?_; (with_reducible refine (spec_l1In.calls a0_1 1 6 true _ A31.out).mono ?_); rintro e w' ⟨rfl, ⟨nd, rfl⟩⟩; refine ⟨_, rfl, ?_⟩) | (go_at_call 193; (with_reducible refine (spec_l1In.calls a0_2 0 4 t462 _ A33.out).mono ?_); rintro e w' ⟨rfl, ⟨nd, rfl⟩⟩))
       go_ret
       exact ⟨Re, Ub⟩
     obtain rfl := jM H
     have hcz35_0 : wc.cell? ⟨gb454, 0, none⟩ = some (.int .i64 a0_0) := (jE BK454.out 0).trans rfl
     have hcz35_1 : wc.cell? ⟨gb454, 1, none⟩ = some (.int .i64 a0_1) := (jE BK454.out 1).trans rfl
     have hcz35_2 : wc.cell? ⟨gb454, 2, none⟩ = some (.int .i64 a0_2) := (jE BK454.out 2).trans rfl
     have hfz35_0 := jF BK454.out 0
     have hfz35_1 := jF BK454.out 1
     have hfz35_2 := jF BK454.out 2
     go_wp2_with (first | (refine Gl 50 #[.int .i64 a0_1, .int .i64 1, .int .i64 6] Try.func193 ?_; (with_reducible refine (spec_l1In.calls a0_1 1 6 false _ A31.out).mono ?_); rintro e w' ⟨rfl, ⟨nd, rfl⟩⟩; refine ⟨_, rfl, ?_⟩))
     go_ret
     exact ⟨Re, Ub⟩
   have c30b0 : (a0_0 == 5) = false := beq_eq_false_iff_ne.mpr c30
   have c30b1 := bne_iff_ne.mpr c30
   obtain rfl := jM H
   go_wp2
   go_ret
   exact ⟨Re, Ub⟩

/-! ### spec_pzGood: function 226 -/
def spec_pzGood.l0 : Nat → List (S58) → Int → Int → Option (Bool)
 | 0, _, _, _ => none
 | k + 1, x10, x11, x12 => if x12 < x11 then (if 0 ≤ x12 then (if x12 < (x10.length : Int) then ((spec_pzClue.f k ((rd_T58 x10 x12).f0) ((rd_T58 x10 x12).f1) ((rd_T58 x10 x12).f2)).bind fun t466 => (if t466 = true then (spec_pzGood.l0 k x10 x11 (wrap64 (x12 + 1))) else (some false))) else (none)) else (none)) else (some true)
def spec_pzGood.f (k : Nat) (l0_0 : List (S58)) : Option (Bool) := if (l0_0.length : Int) > 6 then (some false) else (spec_pzGood.l0 k l0_0 (l0_0.length : Int) 0)
theorem spec_pzGood.calls (k : Nat) (A0_0 : Option Addr) (c0_0 : Nat) (l0_0 : List (S58)) (r : Bool) (w : World) (hr0_0 : Kd.C k58 w A0_0 l0_0.length l0_0) (hc0_0 : l0_0.length ≤ c0_0) (h : spec_pzGood.f k l0_0 = some r) :
 Calls Try.prog 226 #[.agg #[.slice A0_0 l0_0.length c0_0]] w fun e w' => e = .returned (.bool r) ∧ Below w.heap.size w w' := by
 have hu52 := Try.underlying52
 have hu58 := Try.underlying58
 have HR0_0 := jA hr0_0
 have HC0_0 := jA hc0_0
 clear hr0_0 hc0_0
 have HB := jA (jU w.heap.size w)
 have H := h; unfold spec_pzGood.f at H
 clear h
 replace H := Ic H; rcases H with ⟨c2, H⟩ | ⟨c2, H⟩
 · have c2b0 : decide (6 < (l0_0.length : Int)) = true := jK c2
   have c2b1 : decide (6 < l0_0.length) = true := jK (by omega)
   clear c2
   obtain rfl := jM H
   go_enter Try.func226, Try.ntmps226
   go_wp2_with (first | ((with_reducible refine gate_dst (N := 1) rfl ?_); refine box_event ?hg (N := 1) ?hd (cs := #[.slice A0_0 l0_0.length c0_0]) (t := 52) ?hr ?_; (case hd => rfl); (case hg => rfl); (case hr => first | (go_simp; done) | (go_simp; rfl)); intro gb463 hg w3 hbox hb; have BK463 := jA (hbox); have GW463 := jA ((by rw [hg]; exact (jL Ub) : w.heap.size ≤ gb463)); have GE463 := jA ((by rw [hg]; exact (jL Ub) : w.heap.size ≤ gb463)); replace HB := jA (jB Ub hb); clear hb hbox hg; have hcz4_0 : w3.cell? ⟨gb463, 0, none⟩ = some (.slice A0_0 l0_0.length c0_0) := (jE BK463.out 0).trans rfl; have hfz4_0 := jF BK463.out 0))
   go_ret
   exact ⟨Re, Ub⟩
 have c2b0 : decide (6 < (l0_0.length : Int)) = false := jV c2
 have c2b1 : decide (6 < l0_0.length) = false := jV (by omega)
 clear c2
 have H' := jA H
 clear H
 go_enter Try.func226, Try.ntmps226
 go_wp2_with (first | ((with_reducible refine gate_dst (N := 1) rfl ?_); refine box_event ?hg (N := 1) ?hd (cs := #[.slice A0_0 l0_0.length c0_0]) (t := 52) ?hr ?_; (case hd => rfl); (case hg => rfl); (case hr => first | (go_simp; done) | (go_simp; rfl)); intro gb463 hg w5 hbox hb; have BK463 := jA (hbox); have GW463 := jA ((by rw [hg]; exact (jL Ub) : w.heap.size ≤ gb463)); have GE463 := jA ((by rw [hg]; exact (jL Ub) : w.heap.size ≤ gb463)); replace HB := jA (jB Ub hb); clear hb hbox hg; have hcz6_0 : w5.cell? ⟨gb463, 0, none⟩ = some (.slice A0_0 l0_0.length c0_0) := (jE BK463.out 0).trans rfl; have hfz6_0 := jF BK463.out 0))
 go_loopg [12] k (fun kq v12 w' => ∃ (x12_1 : Int), v12 = .int .i64 x12_1 ∧ Aside0 (spec_pzGood.l0 kq l0_0 (l0_0.length : Int) x12_1 = some r) ∧ Aside0 (kq ≤ k) ∧ Aside0 (w'.heap[gb463]? = some (.cells #[(.slice A0_0 l0_0.length c0_0)] 52 (0, 0))) ∧ Aside0 (Below w.heap.size w w'))
 case atStart => exact ⟨(0), Rs, H', ⟨jX _⟩, ⟨Bm BK463.out⟩, ⟨Ub⟩⟩
 case round =>
  clear H'
  try clear c2
  try clear c2b0
  try clear c2b1
  try clear hcz4_0
  try clear hcz6_0
  try clear hfz4_0
  try clear hfz6_0
  obtain ⟨x12_1, rfl, HA, HK1, BK463, HB⟩ := hrel
  cases gk with
  | zero => exact absurd HA.out (by simp [spec_pzGood.l0])
  | succ k1 =>
   have H := HA.out
   clear HA
   simp only [spec_pzGood.l0] at H
   replace H := Ic H; rcases H with ⟨c7, H⟩ | ⟨c7, H⟩
   · have c7b0 := jK c7
     clear c7
     replace H := Ip H; obtain ⟨c8, H⟩ := H
     have c8b0 := jK c8
     clear c8
     replace H := Ip H; obtain ⟨c9, H⟩ := H
     have c9b0 := jK c9
     clear c9
     replace H := jD H
     obtain ⟨t466, A100, H⟩ := H
     have A10 := jA A100
     clear A100
     replace H := Iw H; rcases H with ⟨rfl, H⟩ | ⟨rfl, H⟩
     · have H' := jA H
       clear H
       have p464 : 0 ≤ (x12_1 : Int) := Oa
       have q464 : x12_1 < (l0_0.length : Int) := Oa
       obtain ⟨ad464, e464, hx464_0, hx464_1, hx464_2⟩ := at_T58 HR0_0.out x12_1 p464 q464
       cases e464
       replace hx464_0 := (HB.out.cell (World.block_lt_of_cell? w _ hx464_0)).trans hx464_0
       replace hx464_1 := (HB.out.cell (World.block_lt_of_cell? w _ hx464_1)).trans hx464_1
       replace hx464_2 := (HB.out.cell (World.block_lt_of_cell? w _ hx464_2)).trans hx464_2
       replace p464 := eq_true p464
       replace q464 := eq_true q464
       go_wp2_with (first | ((with_reducible refine gate_dst (N := 4) rfl ?_); refine box_event ?hg (N := 4) ?hd (cs := #[.int .i64 0, .int .i64 0, .int .i64 0]) (t := 58) ?hr ?_; (case hd => rfl); (case hg => rfl); (case hr => first | (go_simp; done) | (go_simp; rfl)); intro gb465 hg w12 hbox hb; have BK465 := jA (hbox); have GW465 := jA ((by rw [hg]; exact (jL Ub) : w.heap.size ≤ gb465)); have GE465 := jA ((by rw [hg]; exact (jL Ub) : w.heap.size ≤ gb465)); replace HB := jA (jB Ub hb); have NB463_465 := jA ((by rw [hg]; exact jZ (blk_lt (g := gb463) (o := .cells #[.slice (some ad464) l0_0.length c0_0] 52 (0, 0)) (Bm BK463.out)) : gb463 ≠ gb465)); have NB465_463 := jA ((by rw [hg]; exact ja (blk_lt (g := gb463) (o := .cells #[.slice (some ad464) l0_0.length c0_0] 52 (0, 0)) (Bm BK463.out)) : gb465 ≠ gb463)); replace BK463 := jA (jN (g := gb463) (o := .cells #[.slice (some ad464) l0_0.length c0_0] 52 (0, 0)) (Bm BK463.out) hb); clear hb hbox hg; have hnb13 := NB465_463.out; have hnc13 := NB463_465.out; have hcz14_0 : w12.cell? ⟨gb465, 0, none⟩ = some (.int .i64 0) := (jE BK465.out 0).trans rfl; have hcz14_1 : w12.cell? ⟨gb465, 1, none⟩ = some (.int .i64 0) := (jE BK465.out 1).trans rfl; have hcz14_2 : w12.cell? ⟨gb465, 2, none⟩ = some (.int .i64 0) := (jE BK465.out 2).trans rfl; have hfz14_0 := jF BK465.out 0; have hfz14_1 := jF BK465.out 1; have hfz14_2 := jF BK465.out 2) | (refine Gl 17 #[.agg #[.int .i64 ((rd_T58 l0_0 x12_1).f0), .int .i64 ((rd_T58 l0_0 x12_1).f1), .int .i64 ((rd_T58 l0_0 x12_1).f2)]] Try.func231 ?_; (with_reducible refine (spec_pzClue.calls k1 ((rd_T58 l0_0 x12_1).f0) ((rd_T58 l0_0 x12_1).f1) ((rd_T58 l0_0 x12_1).f2) true _ A10.out).mono ?_); rintro e w15 ⟨rfl, hb⟩; refine ⟨_, rfl, ?_⟩; replace BK463 := jA (jN (g := gb463) (o := .cells #[.slice (some ad464) l0_0.length c0_0] 52 (0, 0)) (by (with_reducible repeat refine Xg ?_); refine jk ?_ NB463_465.out _; (with_reducible repeat refine Xg ?_); refine jk ?_ NB463_465.out _; (with_reducible repeat refine Xg ?_); refine jk ?_ NB463_465.out _; (with_reducible repeat refine Xg ?_); exact BK463.out) hb); replace BK465 := jA (jN (g := gb465) (o := .cells #[.int .i64 ((rd_T58 l0_0 x12_1).f0), .int .i64 ((rd_T58 l0_0 x12_1).f1), .int .i64 ((rd_T58 l0_0 x12_1).f2)] 58 (0, 0)) (by (with_reducible repeat refine Xg ?_); refine jp (cs := #[.int .i64 ((rd_T58 l0_0 x12_1).f0), .int .i64 ((rd_T58 l0_0 x12_1).f1), .int .i64 0]) ?_ 2 _ rfl; (with_reducible repeat refine Xg ?_); refine jp (cs := #[.int .i64 ((rd_T58 l0_0 x12_1).f0), .int .i64 0, .int .i64 0]) ?_ 1 _ rfl; (with_reducible repeat refine Xg ?_); refine jp (cs := #[.int .i64 0, .int .i64 0, .int .i64 0]) ?_ 0 _ rfl; (with_reducible repeat refine Xg ?_); exact BK465.out) hb); replace HB := jA (jB Ub hb); clear hb))
       go_roundg k1
       case measure => have := HK1.out; omega
       case rel => exact ⟨(wrap64 (x12_1 + 1)), Rs, H', ⟨by have := HK1.out; omega⟩, ⟨Bm BK463.out⟩, ⟨Ub⟩⟩
     obtain rfl := jM H
     have p464 : 0 ≤ (x12_1 : Int) := Oa
     have q464 : x12_1 < (l0_0.length : Int) := Oa
     obtain ⟨ad464, e464, hx464_0, hx464_1, hx464_2⟩ := at_T58 HR0_0.out x12_1 p464 q464
     cases e464
     replace hx464_0 := (HB.out.cell (World.block_lt_of_cell? w _ hx464_0)).trans hx464_0
     replace hx464_1 := (HB.out.cell (World.block_lt_of_cell? w _ hx464_1)).trans hx464_1
     replace hx464_2 := (HB.out.cell (World.block_lt_of_cell? w _ hx464_2)).trans hx464_2
     replace p464 := eq_true p464
     replace q464 := eq_true q464
     go_wp2_with (first | ((with_reducible refine gate_dst (N := 4) rfl ?_); refine box_event ?hg (N := 4) ?hd (cs := #[.int .i64 0, .int .i64 0, .int .i64 0]) (t := 58) ?hr ?_; (case hd => rfl); (case hg => rfl); (case hr => first | (go_simp; done) | (go_simp; rfl)); intro gb465 hg w16 hbox hb; have BK465 := jA (hbox); have GW465 := jA ((by rw [hg]; exact (jL Ub) : w.heap.size ≤ gb465)); have GE465 := jA ((by rw [hg]; exact (jL Ub) : w.heap.size ≤ gb465)); replace HB := jA (jB Ub hb); have NB463_465 := jA ((by rw [hg]; exact jZ (blk_lt (g := gb463) (o := .cells #[.slice (some ad464) l0_0.length c0_0] 52 (0, 0)) (Bm BK463.out)) : gb463 ≠ gb465)); have NB465_463 := jA ((by rw [hg]; exact ja (blk_lt (g := gb463) (o := .cells #[.slice (some ad464) l0_0.length c0_0] 52 (0, 0)) (Bm BK463.out)) : gb465 ≠ gb463)); replace BK463 := jA (jN (g := gb463) (o := .cells #[.slice (some ad464) l0_0.length c0_0] 52 (0, 0)) (Bm BK463.out) hb); clear hb hbox hg; have hnb17 := NB465_463.out; have hnc17 := NB463_465.out; have hcz18_0 : w16.cell? ⟨gb465, 0, none⟩ = some (.int .i64 0) := (jE BK465.out 0).trans rfl; have hcz18_1 : w16.cell? ⟨gb465, 1, none⟩ = some (.int .i64 0) := (jE BK465.out 1).trans rfl; have hcz18_2 : w16.cell? ⟨gb465, 2, none⟩ = some (.int .i64 0) := (jE BK465.out 2).trans rfl; have hfz18_0 := jF BK465.out 0; have hfz18_1 := jF BK465.out 1; have hfz18_2 := jF BK465.out 2) | (refine Gl 17 #[.agg #[.int .i64 ((rd_T58 l0_0 x12_1).f0), .int .i64 ((rd_T58 l0_0 x12_1).f1), .int .i64 ((rd_T58 l0_0 x12_1).f2)]] Try.func231 ?_; (with_reducible refine (spec_pzClue.calls k1 ((rd_T58 l0_0 x12_1).f0) ((rd_T58 l0_0 x12_1).f1) ((rd_T58 l0_0 x12_1).f2) false _ A10.out).mono ?_); rintro e w19 ⟨rfl, hb⟩; refine ⟨_, rfl, ?_⟩; replace BK463 := jA (jN (g := gb463) (o := .cells #[.slice (some ad464) l0_0.length c0_0] 52 (0, 0)) (by (with_reducible repeat refine Xg ?_); refine jk ?_ NB463_465.out _; (with_reducible repeat refine Xg ?_); refine jk ?_ NB463_465.out _; (with_reducible repeat refine Xg ?_); refine jk ?_ NB463_465.out _; (with_reducible repeat refine Xg ?_); exact BK463.out) hb); replace BK465 := jA (jN (g := gb465) (o := .cells #[.int .i64 ((rd_T58 l0_0 x12_1).f0), .int .i64 ((rd_T58 l0_0 x12_1).f1), .int .i64 ((rd_T58 l0_0 x12_1).f2)] 58 (0, 0)) (by (with_reducible repeat refine Xg ?_); refine jp (cs := #[.int .i64 ((rd_T58 l0_0 x12_1).f0), .int .i64 ((rd_T58 l0_0 x12_1).f1), .int .i64 0]) ?_ 2 _ rfl; (with_reducible repeat refine Xg ?_); refine jp (cs := #[.int .i64 ((rd_T58 l0_0 x12_1).f0), .int .i64 0, .int .i64 0]) ?_ 1 _ rfl; (with_reducible repeat refine Xg ?_); refine jp (cs := #[.int .i64 0, .int .i64 0, .int .i64 0]) ?_ 0 _ rfl; (with_reducible repeat refine Xg ?_); exact BK465.out) hb); replace HB := jA (jB Ub hb); clear hb))
     go_ret
     exact ⟨Re, Ub⟩
   have c7b0 := jV c7
   clear c7
   obtain rfl := jM H
   go_wp2
   go_ret
   exact ⟨Re, Ub⟩

end Go.Proofs.Ytgeoihhibglhgaa.PFnPiecesHidden
