-- MADE FOR THIS CLAIM by wip/xp/xprint.py (with the kit's print; some functions' contracts proved by hand)
import Derived.Test.YtkbllhlmcfjcdaaPFnChangeLeftx0
import Derived.Test.YtkbllhlmcfjcdaaPFnChangeLeftx2
import Derived.Test.YtkbllhlmcfjcdaaPFnChangeLeftx7
import Derived.Test.YtkbllhlmcfjcdaaPFnChangeLeftx10
import Derived.Test.YtkbllhlmcfjcdaaPFnChangeLeftx11
set_option maxHeartbeats 8000000
set_option maxRecDepth 100000
namespace Go.Proofs.Ytkbllhlmcfjcdaa.PFnChangeLeft
open Go.RowKit Go.Proofs.YtkbllhlmcfjcdaaW.PrintWords Go.Proofs.YtkbllhlmcfjcdaaW.PrintLast Go.Proofs.YtkbllhlmcfjcdaaW.PrintMore Go.Proofs.Ytkbllhlmcfjcdaa.Xmv
attribute [local go_sem] max2_int min2_int max_two min_two max_three min_three max_four min_four   -- for this text's walks alone
set_option linter.unusedVariables false
set_option linter.unusedSimpArgs false

/-! ### slices_Delete_int_int: function 100 -/
-- USES delete
theorem delete_int (base g n cap i : Nat) (xs : List Value) (w : World) (HO : w.ownsRow base 3 1 (.slice (some ⟨g, 0, none⟩) n cap) n xs) (h1x : ∀ u ∈ xs, u.oneCell' = true) (hi : i < n) (hn : n ≤ 1000000000) :
 Calls Try.prog 100 #[.slice (some ⟨g, 0, none⟩) n cap, .int .i64 i, .int .i64 ((i : Int) + 1)] w fun e w' => e = .returned (.slice (some ⟨g, 0, none⟩) (n - 1) cap) ∧ w'.ownsRow base 3 1 (.slice (some ⟨g, 0, none⟩) (n - 1) cap) (n - 1) (xs.take (i * 1) ++ xs.drop ((i + 1) * 1)) ∧ w.grownBy w' (some g) := by
 obtain ⟨m, rfl⟩ : ∃ m, n = i + 1 + m := ⟨n - (i + 1), by omega⟩
 have HO' := Aside0.mk HO
 clear HO
 have hi1 : (i : Int) < ((i + 1 + m : Nat) : Int) := by omega
 have hi2 : ((i : Int) + 1).toNat = i + 1 := by omega
 have hi3 : (i : Int) + 1 ≤ ((i + 1 + m : Nat) : Int) := by omega
 have hi4 : (0 : Int) ≤ (i : Int) + 1 := by omega
 have hi5 : (i : Int) ≤ (i : Int) + 1 := by omega
 have hi6 : ((i : Int) == (i : Int) + 1) = false := by simp; omega
 have hnc : i + 1 + m ≤ cap := by
  rcases HO'.out.2 with ⟨h, _⟩ | ⟨g', cap', cur, h, _, _, h2, _⟩
  · cases h
  injection h with h1 h3 h4; omega
 have hi7 : (i : Int) + 1 ≤ (i : Int) + 1 + (m : Int) := by omega
 have hnc3 : (i : Int) + 1 + (m : Int) ≤ (cap : Int) := by omega
 have hnc2 : ((i + 1 + m : Nat) : Int) ≤ (cap : Int) := by omega
 have hl : xs.length = (i + 1 + m) * 1 := HO'.out.1
 have e31 : (i + 1) * 1 = i * 1 + 1 := by omega
 have hcell : ∀ j, j < (i + 1 + m) * 1 → w.drew.cell? ⟨g, j, none⟩ = xs[j]? := by
  intro j hj
  have := HO'.out.cells (g := g) rfl j (xs[j]'(by omega)) (List.getElem?_eq_getElem (by omega))
  rw [add_plain] at this
  rw [List.getElem?_eq_getElem (by omega)]
  exact this
 obtain ⟨A, hA, hnews⟩ : ∃ A : Addr, (if cap = i + 1 then some (⟨g, 0, none⟩ : Addr) else some ⟨g, (i + 1) * 1, none⟩) = some A ∧ Aside0 (∀ j u, (xs.drop ((i + 1) * 1))[j]? = some u → w.drew.cell? (A.add j) = some u) := by
  by_cases h : cap = i + 1
  · refine ⟨⟨g, 0, none⟩, by simp [h], ⟨fun j u hu => ?_⟩⟩
    rw [List.getElem?_eq_none (by rw [List.length_drop, hl]; omega)] at hu
    cases hu
  refine ⟨⟨g, (i + 1) * 1, none⟩, by simp [h], ⟨fun j u hu => ?_⟩⟩
  have hj : j < (xs.drop ((i + 1) * 1)).length := (List.getElem?_eq_some_iff.1 hu).1
  rw [List.length_drop, hl] at hj
  rw [Addr.add_lit, hcell _ (by omega), ← hu, List.getElem?_drop]
 have s1 : Aside0 ((xs.drop ((i + 1) * 1)).length = m * 1) := ⟨by rw [List.length_drop, hl]; omega⟩
 have s2 : Aside0 (∀ u ∈ xs.drop ((i + 1) * 1), u.oneCell' = true) := ⟨fun u hu => h1x u (List.mem_of_mem_drop hu)⟩
 have hfz := own_frozen HO'.out
 have s3 : Aside0 (∀ j, j < (xs.drop ((i + 1) * 1)).length → (w.drew.cell? ⟨g, 0 + i * 1 + j, none⟩).isSome = true ∧ w.drew.frozen? ⟨g, 0 + i * 1 + j, none⟩ = false) := ⟨fun j hj => by
  rw [List.length_drop, hl] at hj
  rw [Nat.zero_add, hcell _ (by omega), List.getElem?_eq_getElem (by omega)]
  exact ⟨rfl, hfz _⟩⟩
 have hclr : (Builtin.clear_ #[24] 0 #[.slice (some ⟨g, (i + m) * 1, none⟩) (i + 1 + m - (i + m)) (cap - (i + m))]).run Try.prog (w.drew.setCells g (i * 1) (xs.drop ((i + 1) * 1))) = .ok (.tuple #[]) ((w.drew.setCells g (i * 1) (xs.drop ((i + 1) * 1))).setCells g ((i + m) * 1) [.int .i64 0]) := by
  rw [show i + 1 + m - (i + m) = 1 by omega]
  refine run_clear_one _ 24 3 0 (.int .i64 0) _ Try.underlying24 (fun _ => by kernel_rfl) (by kernel_rfl) (by simp [Value.oneCell']) g _ _ (fun j hj => ?_) (fun j hj => ?_)
  · refine World.isSome_setCells g _ _ _ _ ?_
    simp at hj
    rw [hcell _ (by omega), List.getElem?_eq_getElem (by omega)]
    rfl
  rw [World.frozen?_setCells]; exact hfz _
 (try simp only [Nat.mul_one] at hclr)
 have hic : i ≤ cap := by omega
 obtain ⟨i0, hi0, hzz⟩ := Option.map_eq_some_iff.1 info3
 simp only [Prod.mk.injEq] at hzz
 obtain ⟨hz0, hz1, hz2⟩ := hzz
 have HC := Aside0.mk hcell
 have HL := Aside0.mk hl
 clear hcell hl e31 h1x hfz
 go_enter Try.func100, Try.ntmps100
 go_wp2_with fail
 go_region_law (refine step_append_room rfl (.tmp 22) (.tmp 25) 24 rfl 3 i0 1 Try.underlying24 hi0 hz1 g 0 i cap (by simp [Act.eval, Act.put]) A m (cap - (i + 1)) (xs.drop ((i + 1) * 1)) (by first | (simp [Act.eval, Act.put]; done) | (simp [Act.eval, Act.put]; simpa using hA)) s1.out hnews.out s2.out (by omega) s3.out ?_)
 go_wp2_with fail
 all_goals go_ret
 all_goals
  have hcut := own_cut (sz := 1) (zs := [.int .i64 0]) (w := w.drew) (i := i) HO'.out (by omega) rfl
  rw [show i + 1 + m - 1 = i + m by omega] at hcut
  (try rw [show i + 1 + m - 1 = i + m by omega])
  (try simp only [Nat.mul_one] at hcut ⊢)
  first
   | exact ⟨rfl, hcut.1, ⟨hcut.2.os, hcut.2.tape, hcut.2.output, hcut.2.size, hcut.2.block⟩⟩
   | (rw [show cap = i + 1 by assumption] at hcut; exact ⟨rfl, hcut.1, ⟨hcut.2.os, hcut.2.tape, hcut.2.output, hcut.2.size, hcut.2.block⟩⟩)
theorem deleteR_int {base : Nat} {ok : Nat → Prop} {v : Value} {l : List Int} {i : Nat} {w : World} (HO : Kd.R (Kd.int .i64) 3 w base ok v l) (hi : i < l.length) (hn : l.length ≤ 1000000000) :
 Calls Try.prog 100 #[v, .int .i64 i, .int .i64 ((i : Int) + 1)] w fun e w' => ∃ v', e = .returned v' ∧ Kd.R (Kd.int .i64) 3 w' base ok v' (l.eraseIdx i) ∧ w.grownBy w' v.ownBlock := by
 obtain ⟨hok, inner, ho, hr⟩ := HO
 obtain ⟨g, cap, rfl, hb, hg⟩ := World.ownsRow.form ho (by omega)
 have h1 : ∀ u ∈ inner, u.oneCell' = true := by
  intro u hu
  obtain ⟨q, hq, rfl⟩ := List.getElem_of_mem hu
  have hq3 : q / (Kd.int .i64).sz < l.length := (Nat.div_lt_iff_lt_mul (by decide)).2 (by rw [← hr.1]; exact hq)
  have := hr.2 (q / (Kd.int .i64).sz) _ (List.getElem?_eq_getElem hq3)
  refine (Kd.int .i64).K_one ((Kd.int .i64).K_of_M this) _ ?_
  rw [List.mem_iff_getElem?]
  refine ⟨q % (Kd.int .i64).sz, ?_⟩
  rw [List.getElem?_take_of_lt (Nat.mod_lt _ (by decide)), List.getElem?_drop, Nat.mul_comm, Nat.div_add_mod, List.getElem?_eq_getElem hq]
 refine (delete_int base g l.length cap i inner w ho h1 hi hn).mono ?_
 rintro e w' ⟨rfl, ho', hg'⟩
 refine ⟨_, rfl, ⟨fun k hk => hok k hk, _, ?_, reps_erase (hr.imp_ (fun _ _ hp => ?_)) hi⟩, hg'⟩
 · rw [List.length_eraseIdx_of_lt hi]; exact ho'
 exact Kd.M_grown hp hg' (fun k hk => hk.2)



/-! ### slices_Clone_int_int: function 101 -/
/-- A copy. -/
def slices_Clone_int_int.f (l0 : List Int) : Option (List Int) := if l0.length < 4398046511104 then (some l0) else (none)
theorem slices_Clone_int_int.calls (A0 : Option Addr) (c0 : Nat) (l0 : List Int) (r : List Int) (w : World) (hr0 : Kd.C (Kd.int .i64) w A0 l0.length l0) (hc0 : l0.length ≤ c0) (h : slices_Clone_int_int.f l0 = some r) :
 Calls Try.prog 101 #[.slice A0 l0.length c0] w fun e w' => ∃ v0_ : Value, e = .returned (v0_) ∧ Kd.R (Kd.int .i64) 3 w' w.heap.size (fun _ => True) v0_ r ∧ Below w.heap.size w w' := by
 have HR0 := Aside0.mk hr0
 have HB := Aside0.mk (Below.refl w.heap.size w)
 by_cases c2 : l0.length < 4398046511104
 · have H : l0 = r := by unfold slices_Clone_int_int.f at h; rw [if_pos c2] at h; exact Option.some.inj h
   subst H
   clear h
   have LM := Aside0.mk c2
   clear c2 hr0 hc0
   cases A0 with
   | none =>
    have hnil := fun W => Go.Lib.run_eql_slice_nil (P := Try.prog) W 24 3 none l0.length c0 0 0 Try.underlying24
    go_enter Try.func101, Try.ntmps101
    go_wp2
    go_ret
    have e0 : l0 = [] := by
     rcases l0 with _ | ⟨x, s⟩
     · rfl
     obtain ⟨ad, he, _⟩ := HR0.out.2.2 (by simp)
     cases he
    subst e0
    exact ⟨_, rfl, Kd.R_nil _ _ _ _ _, Below.refl _ _⟩
   | some ad =>
    have hnil := fun W => Go.Lib.run_eql_slice_nil (P := Try.prog) W 24 3 (some ad) l0.length c0 0 0 Try.underlying24
    go_enter Try.func101, Try.ntmps101
    go_wp2_with (first | ((with_reducible refine gate_dst (N := 5) rfl ?_); refine Kd.R_lit (Kd.int .i64) _ 3 ?hg (N := 5) ?hd (xs := ([] : List Int)) (inner := []) (ok := fun _ => True) (okp := fun _ => True) ?hr ?hp (fun _ hk => hk) trivial (Below.refl _ _) (Nat.le_refl _) (by simp) ?_; (case hd => rfl); (case hg => rfl); (case hr => first | (go_simp; done) | (go_simp; rfl)); (case hp => exact (Reps.none _ _)); intro v120 w3 ho4 hb hg_ hnew_; clear hg_ hnew_; have HO121 := Aside0.mk (Kd.R_lower ho4 (below_size Ub)); replace HB := Aside0.mk (below_step Ub hb); clear hb ho4) | ((with_reducible refine gate_builtin (b := .append) (xs := #[.tmp 5, .tmp 6]) rfl ?_); at_builtin; refine Kd.R_append_rows (Kd.int .i64) (w0 := w) w.heap.size rfl (.tmp 5) (.tmp 6) 24 3 (.int .i64 0) 8 rfl Try.underlying24 info3 rfl (by decide) (by omega) v120 [] l0 _ _ _ (fun _ => True) (fun _ => False) rfl rfl ?aO ?aR (fun _ _ h => h) (fun _ h => h.elim) ?aF ?aB ?aS ?aL ?_; (case aR => repeat (first | exact (Kd.C_below HR0.out HB.out) | (with_reducible refine Kd.C_alloc ?_ _) | (with_reducible refine Kd.C_drewN ?_ _) | (with_reducible refine Kd.C_drew ?_))); (case aB => exact Ub); (case aF => exact (fun _ _ => trivial)); (case aO => exact (Rm HO121.out)); (case aS => exact (below_size Ub)); (case aL => have := LM.out; simp; omega); intro v123 w5 ho hb hg hat; replace HB := Aside0.mk (hb); have HO124 := Aside0.mk (ho); clear HO121; clear ho hb hg hat))
    go_ret
    exact ⟨_, rfl, HO124.out, HB.out⟩
 unfold slices_Clone_int_int.f at h
 rw [if_neg c2] at h
 cases h


/-! ### impl_without: function 63 -/
def impl_without.f (l0 : List Int) (a1 : Int) : Option (List Int) := if 0 ≤ a1 then (if a1 < (l0.length : Int) then (if l0.length ≤ 1000000 then some (l0.eraseIdx a1.toNat) else none) else none) else none
theorem impl_without.calls (A0 : Option Addr) (c0 : Nat) (l0 : List Int) (a1 : Int) (r : List Int) (w : World) (hr0 : Kd.C (Kd.int .i64) w A0 l0.length l0) (hc0 : l0.length ≤ c0) (h : impl_without.f l0 a1 = some r) :
 Calls Try.prog 63 #[.slice A0 l0.length c0, .int .i64 a1] w fun e w' => ∃ v0_ : Value, e = .returned (v0_) ∧ Kd.R (Kd.int .i64) 3 w' w.heap.size (fun _ => True) v0_ r ∧ Below w.heap.size w w' := by
 unfold impl_without.f at h
 by_cases c1 : 0 ≤ a1
 · by_cases c2 : a1 < (l0.length : Int)
   · by_cases c3 : l0.length ≤ 1000000
     · rw [if_pos c1, if_pos c2, if_pos c3] at h
       obtain rfl := Option.some.inj h
       obtain ⟨i, rfl⟩ := Int.eq_ofNat_of_zero_le c1
       have hi : i < l0.length := by omega
       have ha : (i : Int) + 1 ≤ 9223372036854775807 := by omega
       have HR := Aside0.mk hr0
       have HH := Aside0.mk hi
       have HL := Aside0.mk c3
       have hf : slices_Clone_int_int.f l0 = some l0 := by unfold slices_Clone_int_int.f; rw [if_pos (by omega)]
       have HF := Aside0.mk hf
       clear h c1 c2 hr0 hf hi c3
       go_enter Try.func63, Try.ntmps63
       go_wp2_with (first | (go_at_call 101; refine (slices_Clone_int_int.calls A0 c0 l0 l0 _ HR.out hc0 HF.out).mono ?_; rintro e w1 ⟨v1, rfl, ho, hb⟩) | (go_at_call 100; refine (deleteR_int ho HH.out (by have := HL.out; omega)).mono ?_; rintro e w2 ⟨v2, rfl, ho2, hg2⟩))
       go_ret
       obtain ⟨inner, ho'⟩ := Kd.R_own ho
       exact ⟨_, rfl, by rw [Int.toNat_natCast]; exact ho2, hb.grown hg2 hb.size (own_base ho')⟩
     rw [if_pos c1, if_pos c2, if_neg c3] at h; cases h
   rw [if_pos c1, if_neg c2] at h; cases h
 rw [if_neg c1] at h; cases h


/-! ### impl_NeedlessCoins: function 19 -/
def impl_NeedlessCoins.l0 : Nat → List Int → List Int → List Int → Int → Int → Option (List Int × Bool)
 | 0, _, _, _, _, _ => none
 | k + 1, x0, x4, x11, x12, x13 => if x13 < x12 then (if 0 ≤ x13 then (if x13 < (x11.length : Int) then ((impl_without.f x0 x13).bind fun t466 => ((impl_fewStamps.f k t466 (rd x11 x13)).bind fun t469 => (if 0 ≤ (rd x11 x13) then (if (rd x11 x13) < (t469.length : Int) then (if (rd t469 (rd x11 x13)) ≤ (rd x11 x13) then (if x4.length < 17592186044416 then (impl_NeedlessCoins.l0 k x0 (x4 ++ [rd x11 x13]) x11 x12 (wrap64 (x13 + 1))) else (none)) else (impl_NeedlessCoins.l0 k x0 x4 x11 x12 (wrap64 (x13 + 1)))) else (none)) else (none)))) else (none)) else (none)) else (some (x4, true))
def impl_NeedlessCoins.f (k : Nat) (l0 : List Int) : Option (List Int × Bool) := (impl_AreCoins.f k l0).bind fun t461 => (if t461 = true then (impl_NeedlessCoins.l0 k l0 (([] : List Int)) l0 (l0.length : Int) 0) else (some (([] : List Int), false)))
theorem impl_NeedlessCoins.calls (k : Nat) (A0 : Option Addr) (c0 : Nat) (l0 : List Int) (r1 : List Int) (r2 : Bool) (w : World) (hr0 : Kd.C (Kd.int .i64) w A0 l0.length l0) (hc0 : l0.length ≤ c0) (h : impl_NeedlessCoins.f k l0 = some (r1, r2)) :
 Calls Try.prog 19 #[.slice A0 l0.length c0] w fun e w' => ∃ v0_ : Value, e = .returned (.tuple #[v0_, .bool r2]) ∧ Kd.R (Kd.int .i64) 3 w' w.heap.size (fun _ => True) v0_ r1 ∧ Below w.heap.size w w' := by
 have HR0 := Aside0.mk hr0
 have HC0 := Aside0.mk hc0
 clear hr0 hc0
 have HB := Aside0.mk (Below.refl w.heap.size w)
 have H := h; unfold impl_NeedlessCoins.f at H
 clear h
 replace H := Option.bind_eq_some_iff.mp H
 obtain ⟨t461, A20, H⟩ := H
 have A2 := Aside0.mk A20
 clear A20
 replace H := Iw H; rcases H with ⟨rfl, H⟩ | ⟨rfl, H⟩
 · obtain ⟨y462, hy462⟩ : ∃ y_ : List Int, y_ = (([] : List Int)) := ⟨_, rfl⟩
   replace H : (impl_NeedlessCoins.l0 k l0 y462 l0 (l0.length : Int) 0) = some (r1, r2) := by first | (rw [hy462]; with_reducible exact H) | (have H2_ := (Option.bind_some _ _).symm.trans H; rw [hy462]; with_reducible exact H2_) | (have H2_ := (Option.bind_some _ _).symm.trans H; with_reducible exact H2_) | with_reducible exact H | (rw [hy462]; exact H) | exact H
   have Ny462 := Aside0.mk hy462
   clear hy462
   have H' := Aside0.mk H
   clear H
   go_enter Try.func19, Try.ntmps19
   go_wp2_with (first | (refine Gl 8 #[.slice A0 l0.length c0] Try.func21 ?_; (with_reducible refine (impl_AreCoins.calls k _ _ l0 true _ (Cm HR0.out) HC0.out A2.out).mono ?_); rintro e w4 ⟨rfl, hb⟩; refine ⟨_, rfl, ?_⟩; replace HB := Aside0.mk (below_step Ub hb); clear hb) | ((with_reducible refine gate_dst (N := 10) rfl ?_); refine Kd.R_lit (Kd.int .i64) _ 3 ?hg (N := 10) ?hd (xs := ([] : List Int)) (inner := []) (ok := fun _ => True) (okp := fun _ => True) ?hr ?hp (fun _ hk => hk) trivial (Below.refl _ _) (Nat.le_refl _) (by simp) ?_; (case hd => rfl); (case hg => rfl); (case hr => first | (go_simp; done) | (go_simp; rfl)); (case hp => exact (Reps.none _ _)); intro v463 w5 ho6 hb hg_ hnew_; clear hg_ hnew_; (first | rw [← Ny462.out] at ho6 | (simp only [Int.reduceToNat] at ho6; rw [← Ny462.out] at ho6)); have HO464 := Aside0.mk (Kd.R_lower ho6 (below_size Ub)); replace HB := Aside0.mk (below_step Ub hb); clear hb ho6))
   go_loopg [4, 13] k (fun kq v4 v13 w' => ∃ (x4_1 : List Int) (x13_1 : Int), v13 = .int .i64 x13_1 ∧ Aside0 (impl_NeedlessCoins.l0 kq l0 x4_1 l0 (l0.length : Int) x13_1 = some (r1, r2)) ∧ Aside0 (kq ≤ k) ∧ Aside0 (Kd.R (Kd.int .i64) 3 w' w.heap.size (fun _ => True) v4 x4_1) ∧ Aside0 (Below w.heap.size w w'))
   case atStart => exact ⟨(y462), (0), Rs, H', ⟨Nat.le_refl _⟩, ⟨Rm HO464.out⟩, ⟨Ub⟩⟩
   case round =>
    clear H'
    obtain ⟨x4_1, x13_1, rfl, HA, HK1, HO_4, HB⟩ := hrel
    cases gk with
    | zero => exact absurd HA.out (by simp [impl_NeedlessCoins.l0])
    | succ k1 =>
     have H := HA.out
     clear HA
     simp only [impl_NeedlessCoins.l0] at H
     replace H := Ic H; rcases H with ⟨c7, H⟩ | ⟨c7, H⟩
     · have c7b0 := decide_eq_true c7
       clear c7
       replace H := Ip H; obtain ⟨c8, H⟩ := H
       have c8b0 := decide_eq_true c8
       clear c8
       replace H := Ip H; obtain ⟨c9, H⟩ := H
       have c9b0 := decide_eq_true c9
       clear c9
       replace H := Option.bind_eq_some_iff.mp H
       obtain ⟨t466, A100, H⟩ := H
       have A10 := Aside0.mk A100
       clear A100
       replace H := Option.bind_eq_some_iff.mp H
       obtain ⟨t469, A110, H⟩ := H
       have A11 := Aside0.mk A110
       clear A110
       replace H := Ip H; obtain ⟨c12, H⟩ := H
       have c12b0 := decide_eq_true c12
       clear c12
       replace H := Ip H; obtain ⟨c13, H⟩ := H
       have c13b0 := decide_eq_true c13
       clear c13
       replace H := Ic H; rcases H with ⟨c14, H⟩ | ⟨c14, H⟩
       · have c14b0 := decide_eq_true c14
         clear c14
         replace H := Ip H; obtain ⟨c15, H⟩ := H
         have LMc15 := Aside0.mk c15
         clear c15
         obtain ⟨y473, hy473⟩ : ∃ y_ : List Int, y_ = (x4_1 ++ [rd l0 x13_1]) := ⟨_, rfl⟩
         replace H : (impl_NeedlessCoins.l0 k1 l0 y473 l0 (l0.length : Int) (wrap64 (x13_1 + 1))) = some (r1, r2) := by first | (rw [hy473]; with_reducible exact H) | (have H2_ := (Option.bind_some _ _).symm.trans H; rw [hy473]; with_reducible exact H2_) | (have H2_ := (Option.bind_some _ _).symm.trans H; with_reducible exact H2_) | with_reducible exact H | (rw [hy473]; exact H) | exact H
         have Ny473 := Aside0.mk hy473
         clear hy473
         have H' := Aside0.mk H
         clear H
         obtain ⟨p465, q465, ad465, e465, hx465_0⟩ := Ai HR0.out x13_1
         cases e465
         replace hx465_0 := (HB.out.cell (World.block_lt_of_cell? w _ hx465_0)).trans hx465_0
         go_wp2_with (first | (refine Gl 20 #[.slice (some ad465) l0.length c0, .int .i64 x13_1] Try.func63 ?_; (with_reducible refine (impl_without.calls _ _ l0 x13_1 t466 _ (Cm (Kd.C_below HR0.out HB.out)) HC0.out A10.out).mono ?_); rintro e w16 ⟨v467, rfl, ho0, hb⟩; refine ⟨_, rfl, ?_⟩; have HO468 := Aside0.mk (Kd.R_lower (Kd.R_new' ho0 (Kd.R_lt (Rm HO_4.out))) (below_size Ub)); replace HO_4 := Aside0.mk (Kd.R_elder' (Rm HO_4.out) (Kd.R_base ho0) hb); replace HB := Aside0.mk (below_step Ub hb); clear hb ho0; obtain ⟨Ao17, co17, eo17⟩ := Kd.R_slice HO468.out; subst eo17) | (refine Gl 22 #[.slice Ao17 t466.length co17, .int .i64 (rd l0 x13_1)] Try.func56 ?_; (with_reducible refine (impl_fewStamps.calls k1 _ _ t466 (rd l0 x13_1) t469 _ (Cm (Kd.R_reads' HO468.out).2.2) ((Kd.R_reads' HO468.out).2.1) A11.out).mono ?_); rintro e w18 ⟨v470, rfl, ho0, hb⟩; refine ⟨_, rfl, ?_⟩; have HO471 := Aside0.mk (Kd.R_lower (Kd.R_new' (Kd.R_new' ho0 (Kd.R_lt (Rm HO_4.out))) (Kd.R_lt (Rm HO468.out))) (below_size Ub)); replace HO_4 := Aside0.mk (Kd.R_elder' (Rm HO_4.out) (Kd.R_base ho0) hb); replace HO468 := Aside0.mk (Kd.R_elder' (Rm HO468.out) (Kd.R_base ho0) hb); replace HB := Aside0.mk (below_step Ub hb); clear hb ho0; obtain ⟨Ao19, co19, eo19⟩ := Kd.R_slice HO471.out; subst eo19; have p472 : 0 ≤ ((rd l0 x13_1) : Int) := Oa; have q472 : (rd l0 x13_1) < (t469.length : Int) := Oa; obtain ⟨ad472, e472, hx472_0⟩ := Kd.at_int (Kd.R_reads' HO471.out).2.2 (rd l0 x13_1) p472 q472; cases e472; replace p472 := eq_true p472; replace q472 := eq_true q472) | ((with_reducible refine gate_builtin (b := .append) (xs := #[.tmp 28, .tmp 30]) rfl ?_); at_builtin; refine Kd.R_append (Kd.int .i64) (w0 := w) w.heap.size rfl (.tmp 28) (.tmp 30) 24 3 (.int .i64 0) 8 rfl Try.underlying24 info3 rfl (by decide) (by omega) u4 x4_1 (rd l0 x13_1) [.int .i64 (rd l0 x13_1)] (fun k_ => some k_ ≠ (.slice Ao17 t466.length co17 : Value).ownBlock ∧ some k_ ≠ (.slice (some ad472) t469.length co19 : Value).ownBlock) (fun _ => False) rfl rfl ?aP (fun _ hk => hk.elim) ?aF ?aO ?aB ?aS ?aL ?_; (case aP => exact rfl); (case aB => exact Ub); (case aF => exact (fun k_ hk => ⟨Kd.fresh' (Kd.R_lt (Rm HO468.out)) k_ hk, Kd.fresh' (Kd.R_lt (Rm HO471.out)) k_ hk⟩)); (case aO => exact (by (with_reducible repeat (first | apply Kd.R_alloc | apply Kd.R_drewN | apply Kd.R_drew)); exact Kd.R_mono HO_4.out (fun _ hk => ⟨hk.1.2, hk.2⟩))); (case aS => exact (below_size Ub)); (case aL => have := LMc15.out; omega); intro v474 w20 ho hb hg hat; rw [← Ny473.out] at ho; replace HO468 := Aside0.mk (Kd.R_after (ok := (fun k_ => some k_ ≠ (.slice (some ad472) t469.length co19 : Value).ownBlock)) (by (with_reducible repeat (first | apply Kd.R_alloc | apply Kd.R_drewN | apply Kd.R_drew)); exact Kd.R_mono HO468.out (fun _ hk => ⟨hk.2, hk.1.2⟩)) hg hat); replace HO471 := Aside0.mk (Kd.R_after (ok := (fun k_ => some k_ ≠ (.slice Ao17 t466.length co17 : Value).ownBlock)) (by (with_reducible repeat (first | apply Kd.R_alloc | apply Kd.R_drewN | apply Kd.R_drew)); exact Kd.R_mono HO471.out (fun _ hk => ⟨hk.2, hk.1.2⟩)) hg hat); replace HB := Aside0.mk (hb); have HO475 := Aside0.mk (ho); clear HO_4; clear ho hb hg hat))
         go_roundg k1
         case measure => have := HK1.out; omega
         case rel => exact ⟨(y473), (wrap64 (x13_1 + 1)), Rs, H', ⟨by have := HK1.out; omega⟩, ⟨by (with_reducible repeat (first | apply Kd.R_alloc | apply Kd.R_drewN | apply Kd.R_drew)); exact Kd.R_mono HO475.out (fun _ hk => trivial)⟩, ⟨Ub⟩⟩
       have c14b0 := decide_eq_false c14
       clear c14
       have H' := Aside0.mk H
       clear H
       obtain ⟨p465, q465, ad465, e465, hx465_0⟩ := Ai HR0.out x13_1
       cases e465
       replace hx465_0 := (HB.out.cell (World.block_lt_of_cell? w _ hx465_0)).trans hx465_0
       go_wp2_with (first | (refine Gl 20 #[.slice (some ad465) l0.length c0, .int .i64 x13_1] Try.func63 ?_; (with_reducible refine (impl_without.calls _ _ l0 x13_1 t466 _ (Cm (Kd.C_below HR0.out HB.out)) HC0.out A10.out).mono ?_); rintro e w21 ⟨v467, rfl, ho0, hb⟩; refine ⟨_, rfl, ?_⟩; have HO468 := Aside0.mk (Kd.R_lower (Kd.R_new' ho0 (Kd.R_lt (Rm HO_4.out))) (below_size Ub)); replace HO_4 := Aside0.mk (Kd.R_elder' (Rm HO_4.out) (Kd.R_base ho0) hb); replace HB := Aside0.mk (below_step Ub hb); clear hb ho0; obtain ⟨Ao22, co22, eo22⟩ := Kd.R_slice HO468.out; subst eo22) | (refine Gl 22 #[.slice Ao22 t466.length co22, .int .i64 (rd l0 x13_1)] Try.func56 ?_; (with_reducible refine (impl_fewStamps.calls k1 _ _ t466 (rd l0 x13_1) t469 _ (Cm (Kd.R_reads' HO468.out).2.2) ((Kd.R_reads' HO468.out).2.1) A11.out).mono ?_); rintro e w23 ⟨v470, rfl, ho0, hb⟩; refine ⟨_, rfl, ?_⟩; have HO471 := Aside0.mk (Kd.R_lower (Kd.R_new' (Kd.R_new' ho0 (Kd.R_lt (Rm HO_4.out))) (Kd.R_lt (Rm HO468.out))) (below_size Ub)); replace HO_4 := Aside0.mk (Kd.R_elder' (Rm HO_4.out) (Kd.R_base ho0) hb); replace HO468 := Aside0.mk (Kd.R_elder' (Rm HO468.out) (Kd.R_base ho0) hb); replace HB := Aside0.mk (below_step Ub hb); clear hb ho0; obtain ⟨Ao24, co24, eo24⟩ := Kd.R_slice HO471.out; subst eo24; have p472 : 0 ≤ ((rd l0 x13_1) : Int) := Oa; have q472 : (rd l0 x13_1) < (t469.length : Int) := Oa; obtain ⟨ad472, e472, hx472_0⟩ := Kd.at_int (Kd.R_reads' HO471.out).2.2 (rd l0 x13_1) p472 q472; cases e472; replace p472 := eq_true p472; replace q472 := eq_true q472))
       go_roundg k1
       case measure => have := HK1.out; omega
       case rel => exact ⟨(x4_1), (wrap64 (x13_1 + 1)), Rs, H', ⟨by have := HK1.out; omega⟩, ⟨by (with_reducible repeat (first | apply Kd.R_alloc | apply Kd.R_drewN | apply Kd.R_drew)); exact Kd.R_mono HO_4.out (fun _ hk => trivial)⟩, ⟨Ub⟩⟩
     have c7b0 := decide_eq_false c7
     clear c7
     simp only [Option.some.injEq, Prod.mk.injEq] at H
     obtain ⟨rfl, rfl⟩ := H
     go_wp2
     go_ret2
     exact ⟨_, Re, Rm HO_4.out, Ub⟩
 simp only [Option.some.injEq, Prod.mk.injEq] at H
 obtain ⟨rfl, rfl⟩ := H
 go_enter Try.func19, Try.ntmps19
 go_wp2_with (first | (refine Gl 8 #[.slice A0 l0.length c0] Try.func21 ?_; (with_reducible refine (impl_AreCoins.calls k _ _ l0 false _ (Cm HR0.out) HC0.out A2.out).mono ?_); rintro e w25 ⟨rfl, hb⟩; refine ⟨_, rfl, ?_⟩; replace HB := Aside0.mk (below_step Ub hb); clear hb))
 go_ret2
 exact ⟨_, Re, Nl, Ub⟩

/-! ### spec_l1Own: function 64 -/
def spec_l1Own.f (l0 : List Int) : Option (List Int) := (some (([] : List Int) : List Int)).bind fun y476 => (if y476.length + l0.length < 17592186044416 then (some (y476 ++ l0)) else (none))
theorem spec_l1Own.calls (A0 : Option Addr) (c0 : Nat) (l0 : List Int) (r : List Int) (w : World) (hr0 : Kd.C (Kd.int .i64) w A0 l0.length l0) (hc0 : l0.length ≤ c0) (h : spec_l1Own.f l0 = some r) :
 Calls Try.prog 64 #[.slice A0 l0.length c0] w fun e w' => ∃ v0_ : Value, e = .returned (v0_) ∧ Kd.R (Kd.int .i64) 3 w' w.heap.size (fun _ => True) v0_ r ∧ Below w.heap.size w w' := by
 have HR0 := Aside0.mk hr0
 have HC0 := Aside0.mk hc0
 clear hr0 hc0
 have HB := Aside0.mk (Below.refl w.heap.size w)
 have H := h; unfold spec_l1Own.f at H
 clear h
 obtain ⟨y476, hy476⟩ : ∃ y_ : List Int, y_ = (([] : List Int)) := ⟨_, rfl⟩
 replace H : (if y476.length + l0.length < 17592186044416 then (some (y476 ++ l0)) else (none)) = some r := by first | (rw [hy476]; with_reducible exact H) | (have H2_ := (Option.bind_some _ _).symm.trans H; rw [hy476]; with_reducible exact H2_) | (have H2_ := (Option.bind_some _ _).symm.trans H; with_reducible exact H2_) | with_reducible exact H | (rw [hy476]; exact H) | exact H
 have Ny476 := Aside0.mk hy476
 clear hy476
 replace H := Ic H; rcases H with ⟨c2, H⟩ | ⟨c2, H⟩
 · have LMc2 := Aside0.mk c2
   clear c2
   obtain ⟨y479, hy479⟩ : ∃ y_ : List Int, y_ = (y476 ++ l0) := ⟨_, rfl⟩
   replace H : (some y479) = some r := by first | (rw [hy479]; with_reducible exact H) | (have H2_ := (Option.bind_some _ _).symm.trans H; rw [hy479]; with_reducible exact H2_) | (have H2_ := (Option.bind_some _ _).symm.trans H; with_reducible exact H2_) | with_reducible exact H | (rw [hy479]; exact H) | exact H
   have Ny479 := Aside0.mk hy479
   clear hy479
   obtain rfl := Option.some.inj H
   go_enter Try.func64, Try.ntmps64
   go_wp2_with (first | ((with_reducible refine gate_dst (N := 3) rfl ?_); refine Kd.R_lit (Kd.int .i64) _ 3 ?hg (N := 3) ?hd (xs := ([] : List Int)) (inner := []) (ok := fun _ => True) (okp := fun _ => True) ?hr ?hp (fun _ hk => hk) trivial (Below.refl _ _) (Nat.le_refl _) (by simp) ?_; (case hd => rfl); (case hg => rfl); (case hr => first | (go_simp; done) | (go_simp; rfl)); (case hp => exact (Reps.none _ _)); intro v477 w3 ho4 hb hg_ hnew_; clear hg_ hnew_; (first | rw [← Ny476.out] at ho4 | (simp only [Int.reduceToNat] at ho4; rw [← Ny476.out] at ho4)); have HO478 := Aside0.mk (Kd.R_lower ho4 (below_size Ub)); replace HB := Aside0.mk (below_step Ub hb); clear hb ho4) | ((with_reducible refine gate_builtin (b := .append) (xs := #[.tmp 3, .tmp 4]) rfl ?_); at_builtin; refine Kd.R_append_rows (Kd.int .i64) (w0 := w) w.heap.size rfl (.tmp 3) (.tmp 4) 24 3 (.int .i64 0) 8 rfl Try.underlying24 info3 rfl (by decide) (by omega) v477 y476 l0 _ _ _ (fun _ => True) (fun _ => False) rfl rfl ?aO ?aR (fun _ _ h => h) (fun _ h => h.elim) ?aF ?aB ?aS ?aL ?_; (case aR => repeat (first | exact (Kd.C_below HR0.out HB.out) | (with_reducible refine Kd.C_alloc ?_ _) | (with_reducible refine Kd.C_drewN ?_ _) | (with_reducible refine Kd.C_drew ?_))); (case aB => exact Ub); (case aF => exact (fun _ _ => trivial)); (case aO => exact (Rm HO478.out)); (case aS => exact (below_size Ub)); (case aL => have := LMc2.out; omega); intro v480 w5 ho hb hg hat; rw [← Ny479.out] at ho; replace HB := Aside0.mk (hb); have HO481 := Aside0.mk (ho); clear HO478; clear ho hb hg hat))
   go_ret
   exact ⟨_, Re, Rm HO481.out, Ub⟩
 exact absurd H (by simp)

/-! ### spec_cnFewer: function 65 -/
def spec_cnFewer.l0 : Nat → Int → List Int → Int → Option (List Int)
 | 0, _, _, _ => none
 | k + 1, x1, x5, x6 => if x6 ≤ x1 then (if 0 ≤ x6 then (if x6 < (x5.length : Int) then (spec_cnFewer.l0 k x1 (x5.set (x6 : Int).toNat (-1)) (wrap64 (x6 + 1))) else (none)) else (none)) else (some x5)
def spec_cnFewer.f (k : Nat) (l0 : List Int) (a1 : Int) : Option (List Int) := if (l0.length : Int) > 0 then ((spec_cnFew.f k l0 a1).bind fun t482 => (some t482)) else (if 0 ≤ (wrap64 (a1 + 1)) then (if (wrap64 (a1 + 1) : Int).toNat ≤ 35184372088832 then (spec_cnFewer.l0 k a1 (List.replicate (wrap64 (a1 + 1) : Int).toNat 0) 1) else (none)) else (none))
theorem spec_cnFewer.calls (k : Nat) (A0 : Option Addr) (c0 : Nat) (l0 : List Int) (a1 : Int) (r : List Int) (w : World) (hr0 : Kd.C (Kd.int .i64) w A0 l0.length l0) (hc0 : l0.length ≤ c0) (h : spec_cnFewer.f k l0 a1 = some r) :
 Calls Try.prog 65 #[.slice A0 l0.length c0, .int .i64 a1] w fun e w' => ∃ v0_ : Value, e = .returned (v0_) ∧ Kd.R (Kd.int .i64) 3 w' w.heap.size (fun _ => True) v0_ r ∧ Below w.heap.size w w' := by
 have HR0 := Aside0.mk hr0
 have HC0 := Aside0.mk hc0
 clear hr0 hc0
 have HB := Aside0.mk (Below.refl w.heap.size w)
 have H := h; unfold spec_cnFewer.f at H
 clear h
 replace H := Ic H; rcases H with ⟨c3, H⟩ | ⟨c3, H⟩
 · have c3b0 : decide (0 < (l0.length : Int)) = true := decide_eq_true c3
   have c3b1 : decide (0 < l0.length) = true := decide_eq_true (by omega)
   clear c3
   replace H := Option.bind_eq_some_iff.mp H
   obtain ⟨t482, A40, H⟩ := H
   have A4 := Aside0.mk A40
   clear A40
   obtain rfl := Option.some.inj H
   go_enter Try.func65, Try.ntmps65
   go_wp2_with (first | (refine Gl 12 #[.slice A0 l0.length c0, .int .i64 a1] Try.func99 ?_; (with_reducible refine (spec_cnFew.calls k _ _ l0 a1 t482 _ (Cm HR0.out) HC0.out A4.out).mono ?_); rintro e w5 ⟨v483, rfl, ho0, hb⟩; refine ⟨_, rfl, ?_⟩; have HO484 := Aside0.mk (Kd.R_lower ho0 (below_size Ub)); replace HB := Aside0.mk (below_step Ub hb); clear hb ho0))
   go_ret
   exact ⟨_, Re, Rm HO484.out, Ub⟩
 have c3b0 : decide (0 < (l0.length : Int)) = false := decide_eq_false c3
 have c3b1 : decide (0 < l0.length) = false := decide_eq_false (by omega)
 clear c3
 obtain ⟨ji6, hji6⟩ : ∃ j_ : Int, (wrap64 (a1 + 1)) = j_ := ⟨_, rfl⟩
 replace H : (if 0 ≤ (ji6) then (if (ji6 : Int).toNat ≤ 35184372088832 then (spec_cnFewer.l0 k a1 (List.replicate (ji6 : Int).toNat 0) 1) else (none)) else (none)) = some r := by first | (rw [hji6] at H; exact H) | (simp only [hji6] at H ⊢; exact H)
 have hji6w : (IntKind.i64.wrap (a1 + 1)) = ji6 := (i64_w _).trans hji6
 replace H := Ic H; rcases H with ⟨c7, H⟩ | ⟨c7, H⟩
 · have c7b0 := eq_true c7
   have c7b1 := decide_eq_true c7
   clear c7
   replace H := Ip H; obtain ⟨c8, H⟩ := H
   have c8b0 := eq_true c8
   have c8b1 := decide_eq_true c8
   clear c8
   obtain ⟨y485, hy485⟩ : ∃ y_ : List Int, y_ = (List.replicate (ji6 : Int).toNat 0) := ⟨_, rfl⟩
   replace H : (spec_cnFewer.l0 k a1 y485 1) = some r := by first | (rw [hy485]; with_reducible exact H) | (have H2_ := (Option.bind_some _ _).symm.trans H; rw [hy485]; with_reducible exact H2_) | (have H2_ := (Option.bind_some _ _).symm.trans H; with_reducible exact H2_) | with_reducible exact H | (rw [hy485]; exact H) | exact H
   have Ny485 := Aside0.mk hy485
   clear hy485
   have H' := Aside0.mk H
   clear H
   go_enter Try.func65, Try.ntmps65
   go_wp2_with (first | ((with_reducible refine gate_dst (N := 15) rfl ?_); refine Kd.R_make (Kd.int .i64) _ 3 rfl (N := 15) rfl 24 _ _ rfl ji6 rfl rfl Try.underlying24 (.int .i64 0) 8 info3 rfl (by decide) (by omega) 0 (ok := fun _ => True) (okp := fun _ => True) rfl (fun _ hk => hk) trivial (Oa) (Nat.le_trans (Nat.mul_le_mul_right _ (Oa : ji6.toNat ≤ 35184372088832)) (by omega)) (Below.refl _ _) (Nat.le_refl _) ?_; intro v486 w9 ho10 hb hg_ hnew_; clear hg_ hnew_; (first | rw [← Ny485.out] at ho10 | (simp only [Int.reduceToNat] at ho10; rw [← Ny485.out] at ho10)); have HO487 := Aside0.mk (Kd.R_lower ho10 (below_size Ub)); replace HB := Aside0.mk (below_step Ub hb); clear hb ho10))
   go_loopg [6] k (fun kq v6 w' => ∃ (x5_1 : List Int) (x6_1 : Int), v6 = .int .i64 x6_1 ∧ Aside0 (spec_cnFewer.l0 kq a1 x5_1 x6_1 = some r) ∧ Aside0 (kq ≤ k) ∧ Aside0 (Kd.R (Kd.int .i64) 3 w' w.heap.size (fun _ => True) v486 x5_1) ∧ Aside0 (Below w.heap.size w w'))
   case atStart => exact ⟨(y485), (1), Rs, H', ⟨Nat.le_refl _⟩, ⟨Rm HO487.out⟩, ⟨Ub⟩⟩
   case round =>
    clear H'
    try clear c3
    try clear c3b0
    try clear c3b1
    try clear c7
    try clear c7b0
    try clear c7b1
    try clear c8
    try clear c8b0
    try clear c8b1
    obtain ⟨x5_1, x6_1, rfl, HA, HK1, HO_5, HB⟩ := hrel
    cases gk with
    | zero => exact absurd HA.out (by simp [spec_cnFewer.l0])
    | succ k1 =>
     have H := HA.out
     clear HA
     simp only [spec_cnFewer.l0] at H
     replace H := Ic H; rcases H with ⟨c11, H⟩ | ⟨c11, H⟩
     · have c11b0 := decide_eq_true c11
       clear c11
       replace H := Ip H; obtain ⟨c12, H⟩ := H
       have c12b0 := decide_eq_true c12
       clear c12
       replace H := Ip H; obtain ⟨c13, H⟩ := H
       have c13b0 := decide_eq_true c13
       clear c13
       obtain ⟨y488, hy488⟩ : ∃ y_ : List Int, y_ = (x5_1.set (x6_1 : Int).toNat (-1)) := ⟨_, rfl⟩
       replace H : (spec_cnFewer.l0 k1 a1 y488 (wrap64 (x6_1 + 1))) = some r := by first | (rw [hy488]; with_reducible exact H) | (have H2_ := (Option.bind_some _ _).symm.trans H; rw [hy488]; with_reducible exact H2_) | (have H2_ := (Option.bind_some _ _).symm.trans H; with_reducible exact H2_) | with_reducible exact H | (rw [hy488]; exact H) | exact H
       have Ny488 := Aside0.mk hy488
       clear hy488
       have H' := Aside0.mk H
       clear H
       have p14 : 0 ≤ (x6_1 : Int) := Oa
       have q14 : (x6_1 : Int) < ((x5_1.length : Int) : Int) := Oa
       obtain ⟨go14, co14, eo14, gb14, gl14, cl14, HG14⟩ := Kd.R_form HO_5.out (by omega)
       (first | cases eo14 | (injection eo14 with ea_ en_ ec_; (first | subst ea_ | (injection ea_ with ea_; subst ea_)); subst ec_; clear en_))
       have GB14 := Aside0.mk gb14
       have GG14 := Aside0.mk HG14
       clear gb14 gl14 HG14
       obtain ⟨hx14_0, hf14_0⟩ := Kd.R_celln 0 HO_5.out (x6_1 : Int) p14 q14
       replace p14 := eq_true p14
       replace q14 := eq_true q14
       have HP15 := Kd.R_putg HO_5.out (x6_1 : Int) (-1)
       go_wp2_with (first | ((with_reducible refine gate_store (t := 3) (p := 23) rfl ?_); refine store_event (t := 3) (p := 23) (v := ?vo_w16) (w1 := (wr.setCell ⟨go14, (x6_1 : Int).toNat, none⟩ (.int .i64 (-1)))) ?hg ?ho ?hn ?hr ?_; (case ho => rfl); (case hg => rfl); (case hn => rfl); (case hr => first | (go_simp; done) | (go_simp; rfl)); intro w16 hw; have hg : wr.grownBy w16 (some go14) := (by rw [hw]; exact HP15.2); have hp_ : Kd.R (Kd.int .i64) 3 w16 w.heap.size (fun _ => True) (.slice (some ⟨go14, 0, none⟩) x5_1.length co14) y488 := (by rw [hw, Ny488.out]; exact HP15.1); clear HP15; replace HO_5 := Aside0.mk (hp_); replace HB := Aside0.mk ((by rw [hw]; exact below_set (HB.out) GB14.out : Below w.heap.size w w16)); clear hg hw hp_))
       go_roundg k1
       case measure => have := HK1.out; omega
       case rel => exact ⟨(y488), (wrap64 (x6_1 + 1)), Rs, H', ⟨by have := HK1.out; omega⟩, ⟨Rm HO_5.out⟩, ⟨Ub⟩⟩
     have c11b0 := decide_eq_false c11
     clear c11
     obtain rfl := Option.some.inj H
     go_wp2
     go_ret
     exact ⟨_, by first | rfl | (simp [errW_none, errW_some] <;> rfl) | (simp only [← hji6]; first | rfl | (simp [errW_none, errW_some] <;> rfl)) | (simp [*, errW_none, errW_some] <;> rfl), Rm HO_5.out, Ub⟩
 exact absurd H (by simp)

end Go.Proofs.Ytkbllhlmcfjcdaa.PFnChangeLeft
