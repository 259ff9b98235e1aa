-- MADE FOR THIS CLAIM by wip/xp/xprint.py (with the kit's print; some functions' contracts proved by hand)
import Derived.Test.YtmpmiomjfhcmdaaPFnExactNeedlessCluesx0
import Derived.Test.YtmpmiomjfhcmdaaPFnExactNeedlessCluesx5
import Derived.Test.YtmpmiomjfhcmdaaPFnExactNeedlessCluesx7
import Derived.Test.YtmpmiomjfhcmdaaPFnExactNeedlessCluesx8
import Derived.Test.YtmpmiomjfhcmdaaPFnExactNeedlessCluesx9
namespace Go.Proofs.Ytmpmiomjfhcmdaa.PFnExactNeedlessClues
open Go.RowKit Go.Proofs.YtmpmiomjfhcmdaaW.PrintWords Go.Proofs.YtmpmiomjfhcmdaaW.PrintLast Go.Proofs.YtmpmiomjfhcmdaaW.PrintMore
attribute [local go_sem] max2_int min2_int max_two min_two max_three min_three max_four min_four   -- for this text's walks alone
set_option linter.unusedVariables false
set_option linter.unusedSimpArgs false

/-! ### impl_solve_1_1: function 101 -/
-- GIVEN loop.example/g01305/impl.solve$1$1 raw=1
-- NEEDS loop.example/g01305/impl.clueOf
set_option maxHeartbeats 4000000 in
set_option maxRecDepth 100000 in
theorem solve_1_1 (k : Nat) (f0 f1 f2 r1 r2 r3 : Int) (A : Option Addr) (c : Nat) (l : List Int) (bl : Nat) (w : World) (hbl : bl < w.heap.size) (hcell : w.cell? ⟨bl, 0, none⟩ = some (.slice A l.length c)) (hC : Kd.C (Kd.int .i64) w A l.length l) (hc : l.length ≤ c)
    (h : impl_clueOf.f k f0 f1 l = some (r1, r2, r3)) :
    Calls Try.prog 101 #[.agg #[.int .i64 f0, .int .i64 f1, .int .i64 f2], .pointer (some ⟨bl, 0, none⟩)] w fun e w' => e = .returned (.bool (!(r1 == f0 && (r2 == f1 && r3 == f2)))) ∧ Below w.heap.size w w' := by
  have hu77 := Try.underlying77
  have HC := Aside0.mk hC
  have HCELL := Aside0.mk hcell
  have HH := Aside0.mk h
  clear hC h
  go_enter Try.func101, Try.ntmps101
  go_wp2_with fail
  have hb1 := (blk_cell (blk_new w (.cells #[.int .i64 f0, .int .i64 f1, .int .i64 f2] 77)) 0).trans rfl
  have hb2 := (blk_cell (blk_new w (.cells #[.int .i64 f0, .int .i64 f1, .int .i64 f2] 77)) 1).trans rfl
  have hb3 := (blk_cell (blk_new w (.cells #[.int .i64 f0, .int .i64 f1, .int .i64 f2] 77)) 2).trans rfl
  have hb4 := (Below.refl w.heap.size w).alloc (Nat.le_refl _) (.cells #[.int .i64 f0, .int .i64 f1, .int .i64 f2] 77)
  have hb5 := pw_cell_below hb4 hcell
  have HC1 := Aside0.mk (Kd.C_below HC.out hb4)
  generalize w.alloc (.cells #[.int .i64 f0, .int .i64 f1, .int .i64 f2] 77) = w1 at hb1 hb2 hb3 hb4 hb5 HC1 ⊢
  have HB4 := Aside0.mk hb4
  generalize w.heap.size = gB at hb1 hb2 hb3 ⊢
  clear hb4
  have fin : ∀ b : Bool, (!(r1 == f0 && (r2 == f1 && r3 == f2))) = b → Aside0 ((!(r1 == f0 && (r2 == f1 && r3 == f2))) = b) := fun _ h => ⟨h⟩
  by_cases e1 : r1 = f0
  · have c1 : (r1 == f0) = true := by simp [e1]
    by_cases e2 : r2 = f1
    · have c2 : (r2 == f1) = true := by simp [e2]
      by_cases e3 : r3 = f2
      · have c3 : (r3 == f2) = true := by simp [e3]
        have F := fin false (by rw [c1, c2, c3]; rfl)
        clear fin e1 e2 e3
        go_region_held_law (fun w' => w'.cell? ⟨gB, 0, none⟩ = some (.int .i64 f0) ∧ w'.cell? ⟨gB, 1, none⟩ = some (.int .i64 f1) ∧ w'.cell? ⟨gB, 2, none⟩ = some (.int .i64 f2) ∧ w'.cell? ⟨bl, 0, none⟩ = some (.slice A l.length c))
          (first | exact ⟨pw_cell_below HB6.out hb1, pw_cell_below HB6.out hb2, pw_cell_below HB6.out hb3, pw_cell_below HB6.out hb5⟩ | go_keep)
          (first | (go_at_call 75; refine (impl_clueOf.calls k f0 f1 A c l r1 r2 r3 _ (Kd.C_drew HC1.out) hc HH.out).mono ?_; rintro e w6 ⟨rfl, hb6⟩; have HB6 := Aside0.mk (below_step (below_drew (Below.refl w1.heap.size w1)) hb6); clear hb6))
        go_wp2
        go_ret
        exact ⟨by rw [F.out]; rfl, below_step HB4.out HB6.out⟩
      · have c3 : (r3 == f2) = false := by simp [e3]
        have F := fin true (by rw [c1, c2, c3]; rfl)
        clear fin e1 e2 e3
        go_region_held_law (fun w' => w'.cell? ⟨gB, 0, none⟩ = some (.int .i64 f0) ∧ w'.cell? ⟨gB, 1, none⟩ = some (.int .i64 f1) ∧ w'.cell? ⟨gB, 2, none⟩ = some (.int .i64 f2) ∧ w'.cell? ⟨bl, 0, none⟩ = some (.slice A l.length c))
          (first | exact ⟨pw_cell_below HB6.out hb1, pw_cell_below HB6.out hb2, pw_cell_below HB6.out hb3, pw_cell_below HB6.out hb5⟩ | go_keep)
          (first | (go_at_call 75; refine (impl_clueOf.calls k f0 f1 A c l r1 r2 r3 _ (Kd.C_drew HC1.out) hc HH.out).mono ?_; rintro e w6 ⟨rfl, hb6⟩; have HB6 := Aside0.mk (below_step (below_drew (Below.refl w1.heap.size w1)) hb6); clear hb6))
        go_wp2
        go_ret
        exact ⟨by rw [F.out]; rfl, below_step HB4.out HB6.out⟩
    · have c2 : (r2 == f1) = false := by simp [e2]
      have F := fin true (by rw [c1, c2]; rfl)
      clear fin e1 e2
      go_region_held_law (fun w' => w'.cell? ⟨gB, 0, none⟩ = some (.int .i64 f0) ∧ w'.cell? ⟨gB, 1, none⟩ = some (.int .i64 f1) ∧ w'.cell? ⟨gB, 2, none⟩ = some (.int .i64 f2) ∧ w'.cell? ⟨bl, 0, none⟩ = some (.slice A l.length c))
        (first | exact ⟨pw_cell_below HB6.out hb1, pw_cell_below HB6.out hb2, pw_cell_below HB6.out hb3, pw_cell_below HB6.out hb5⟩ | go_keep)
        (first | (go_at_call 75; refine (impl_clueOf.calls k f0 f1 A c l r1 r2 r3 _ (Kd.C_drew HC1.out) hc HH.out).mono ?_; rintro e w6 ⟨rfl, hb6⟩; have HB6 := Aside0.mk (below_step (below_drew (Below.refl w1.heap.size w1)) hb6); clear hb6))
      go_wp2
      go_ret
      exact ⟨by rw [F.out]; rfl, below_step HB4.out HB6.out⟩
  · have c1 : (r1 == f0) = false := by simp [e1]
    have F := fin true (by rw [c1]; rfl)
    clear fin e1
    go_region_held_law (fun w' => w'.cell? ⟨gB, 0, none⟩ = some (.int .i64 f0) ∧ w'.cell? ⟨gB, 1, none⟩ = some (.int .i64 f1) ∧ w'.cell? ⟨gB, 2, none⟩ = some (.int .i64 f2) ∧ w'.cell? ⟨bl, 0, none⟩ = some (.slice A l.length c))
      (first | exact ⟨pw_cell_below HB6.out hb1, pw_cell_below HB6.out hb2, pw_cell_below HB6.out hb3, pw_cell_below HB6.out hb5⟩ | go_keep)
      (first | (go_at_call 75; refine (impl_clueOf.calls k f0 f1 A c l r1 r2 r3 _ (Kd.C_drew HC1.out) hc HH.out).mono ?_; rintro e w6 ⟨rfl, hb6⟩; have HB6 := Aside0.mk (below_step (below_drew (Below.refl w1.heap.size w1)) hb6); clear hb6))
    go_wp2
    go_ret
    exact ⟨by rw [F.out]; rfl, below_step HB4.out HB6.out⟩


/-! ### impl_solve_1: function 100 -/
-- GIVEN loop.example/g01305/impl.solve$1 raw=1
-- NEEDS loop.example/g01305/impl.solve$1$1
/-- The first clue that a list does not fit, or -1. -/
def badO (k : Nat) (cs : List S77) (l : List Int) : Option Int := idxO (fun x : S77 => (impl_clueOf.f k x.f0 x.f1 l).bind fun r => some (!(r.1 == x.f0 && (r.2.1 == x.f1 && r.2.2 == x.f2)))) cs 0
theorem badO_mono (k : Nat) (cs : List S77) (l : List Int) : LeO (badO k cs l) (badO (k + 1) cs l) := idxO_le (fun x => LeO.bind (impl_clueOf.mono _ _ _ k) (fun _ => LeO.refl _)) _ _

set_option maxHeartbeats 4000000 in
set_option maxRecDepth 100000 in
theorem solve_1 (k : Nat) (cs : List S77) (Ac : Option Addr) (cc : Nat) (bc : Nat) (A : Option Addr) (c : Nat) (l : List Int) (w : World) (hcell : w.cell? ⟨bc, 0, none⟩ = some (.slice Ac cs.length cc)) (hCc : Kd.C k77 w Ac cs.length cs) (hcc : cs.length ≤ cc) (hC : Kd.C (Kd.int .i64) w A l.length l) (hc : l.length ≤ c)
    (r : Int) (h : badO k cs l = some r) :
    Calls Try.prog 100 #[.slice A l.length c, .pointer (some ⟨bc, 0, none⟩)] w fun e w' => e = .returned (.bool (decide (0 ≤ r))) ∧ Below w.heap.size w w' := by
  have hmf : ∀ (fn : Fn) (first cap : Array Value) (w : World), (Instr.makeFunc fn first cap).run Try.prog w = .ok (.func fn first cap) w := fun _ _ _ _ => rfl
  have hb4 := (Below.refl w.heap.size w).alloc (Nat.le_refl _) (.cells #[.slice A l.length c] 26)
  have hcl : (w.alloc (.cells #[.slice A l.length c] 26)).cell? ⟨w.heap.size, 0, none⟩ = some (.slice A l.length c) := (blk_cell (blk_new w (.cells #[.slice A l.length c] 26)) 0).trans rfl
  have hsz : w.heap.size < (w.alloc (.cells #[.slice A l.length c] 26)).heap.size := by simp
  have hp : PredC 101 #[.pointer (some ⟨w.heap.size, 0, none⟩)] (fun x : S77 => (impl_clueOf.f k x.f0 x.f1 l).bind fun r => some (!(r.1 == x.f0 && (r.2.1 == x.f1 && r.2.2 == x.f2)))) (w.alloc (.cells #[.slice A l.length c] 26)) := by
    intro W x t hb hx
    obtain ⟨⟨t1, t2, t3⟩, ht, hx⟩ := Option.bind_eq_some_iff.1 hx
    cases hx
    refine (solve_1_1 k x.f0 x.f1 x.f2 t1 t2 t3 A c l w.heap.size W (Nat.lt_of_lt_of_le hsz hb.size) (pw_cell_below hb hcl) (Kd.C_below (Kd.C_below hC hb4) hb) hc ht).mono ?_
    rintro e w' ⟨rfl, hb'⟩
    exact ⟨rfl, below_step hb hb'⟩
  have HP := Aside0.mk hp
  have HH := Aside0.mk h
  have HCC := Aside0.mk (Kd.C_below hCc hb4)
  have HB4 := Aside0.mk hb4
  have hcell1 := pw_cell_below hb4 hcell
  clear hp hcl hsz h hCc hC hb4
  go_enter Try.func100, Try.ntmps100
  go_wp2_with (go_at_call 95; refine (containsFunc_Clue _ r 101 _ (enters_of Try.func101 (by kernel_rfl) rfl) Ac cc cs _ HCC.out hcc HP.out HH.out).mono ?_; rintro e w' ⟨rfl, hb'⟩)
  go_ret
  exact ⟨rfl, below_step HB4.out hb'⟩


/-! ### impl_solve: function 65 -/
-- GIVEN loop.example/g01305/impl.solve rounds=1
-- NEEDS loop.example/g01305/impl.solve$1
/-- Those of the hidden pieces that fit all clues, if that can be told of each. -/
def impl_solve.f (k : Nat) (cs : List S77) : Option (List (List Int)) := if (hidL 4 [] 1).all (fun l => (badO k cs l).isSome) = true then some ((hidL 4 [] 1).filter fun l => !(decide (0 ≤ (badO k cs l).getD 0))) else none
theorem impl_solve.mono : ∀ (cs : List S77) k, LeO (impl_solve.f k cs) (impl_solve.f (k + 1) cs) := by
  intro cs k r h
  unfold impl_solve.f at h ⊢
  by_cases c : (hidL 4 [] 1).all (fun l => (badO k cs l).isSome) = true
  · rw [if_pos c] at h
    have e : ∀ l ∈ hidL 4 [] 1, badO (k + 1) cs l = badO k cs l := by
      intro l hl
      have := List.all_eq_true.1 c l hl
      obtain ⟨r, hr⟩ := Option.isSome_iff_exists.1 this
      rw [hr, badO_mono k cs l r hr]
    rw [if_pos, ← h]
    · congr 1
      exact List.filter_congr (fun l hl => by rw [e l hl])
    · exact List.all_eq_true.2 (fun l hl => by rw [e l hl]; exact List.all_eq_true.1 c l hl)
  · rw [if_neg c] at h; cases h

set_option maxHeartbeats 4000000 in
set_option maxRecDepth 100000 in
theorem impl_solve.calls (k : Nat) (A0 : Option Addr) (c0 : Nat) (l0 : List S77) (r : List (List Int)) (w : World) (hr0 : Kd.C k77 w A0 l0.length l0) (hc0 : l0.length ≤ c0) (h : impl_solve.f k l0 = some r) :
    Calls Try.prog 65 #[.slice A0 l0.length c0] w fun e w' => ∃ v0_ : Value, e = .returned (v0_) ∧ Kd.S (Kd.slice 3 (Kd.int .i64)) 26 w' w.heap.size (fun _ => True) v0_ r ∧ Below w.heap.size w w' := by
  have hmf : ∀ (fn : Fn) (first cap : Array Value) (w : World), (Instr.makeFunc fn first cap).run Try.prog w = .ok (.func fn first cap) w := fun _ _ _ _ => rfl
  unfold impl_solve.f at h
  by_cases c : (hidL 4 [] 1).all (fun l => (badO k l0 l).isSome) = true
  · rw [if_pos c] at h
    obtain rfl := Option.some.inj h
    clear h
    have hb4 := (Below.refl w.heap.size w).alloc (Nat.le_refl _) (.cells #[.slice A0 l0.length c0] 42)
    have hcl : (w.alloc (.cells #[.slice A0 l0.length c0] 42)).cell? ⟨w.heap.size, 0, none⟩ = some (.slice A0 l0.length c0) := (blk_cell (blk_new w (.cells #[.slice A0 l0.length c0] 42)) 0).trans rfl
    have hp : PredR 100 #[.pointer (some ⟨w.heap.size, 0, none⟩)] (fun l => decide (0 ≤ (badO k l0 l).getD 0)) (hidL 4 [] 1) (fun W => Below (w.alloc (.cells #[.slice A0 l0.length c0] 42)).heap.size (w.alloc (.cells #[.slice A0 l0.length c0] 42)) W) := by
      intro W A cc l hl hb hC hc
      obtain ⟨t, ht⟩ := Option.isSome_iff_exists.1 (List.all_eq_true.1 c l hl)
      have := solve_1 k l0 A0 c0 w.heap.size A cc l W (pw_cell_below hb hcl) (Kd.C_below (Kd.C_below hr0 hb4) hb) hc0 hC hc t ht
      have e : decide (0 ≤ (badO k l0 l).getD 0) = decide (0 ≤ t) := by rw [ht]; rfl
      show Calls Try.prog 100 _ W fun e w' => e = .returned (.bool (decide (0 ≤ (badO k l0 l).getD 0))) ∧ _
      rw [e]
      exact this
    have HP := Aside0.mk hp
    have HB4 := Aside0.mk hb4
    clear hp hcl hr0 hb4 c
    go_enter Try.func65, Try.ntmps65
    go_wp2_with (first | (go_at_call 99; refine (hidden_calls _).mono ?_; rintro e w2 ⟨v2, rfl, hs2, hb2⟩) | (go_at_call 98; refine (deleteFunc_rows _ 100 _ (enters_of Try.func100 (by kernel_rfl) rfl) _ v2 (hidL 4 [] 1) _ _ hs2 (Nat.le_of_ble_eq_true (by kernel_rfl)) hb2.size hb2 HP.out).mono ?_; rintro e w3 ⟨v3, rfl, hs3, hb3⟩))
    go_ret
    exact ⟨_, rfl, Kd.S_lower hs3 HB4.out.size, below_step HB4.out hb3⟩
  · rw [if_neg c] at h; cases h


/-! ### impl_Solutions: function 37 -/
def impl_Solutions.f (k : Nat) (l0_0 : List (S77)) : Option ((List (List Int)) × Bool) := (impl_IsPuzzle.f k l0_0).bind fun t247 => (if t247 = true then ((impl_solve.f k l0_0).bind fun t248 => (some (t248, true))) else (some (([] : List (List Int)), false)))
theorem impl_Solutions.mono : ∀ a0 k, LeO (impl_Solutions.f k a0) (impl_Solutions.f (k + 1) a0) := by
  intro a0 k
  unfold impl_Solutions.f
  repeat' first
      | (with_reducible exact impl_IsPuzzle.mono _ _)
      | (with_reducible exact impl_solve.mono _ _)
      | (with_reducible exact LeO.refl _)
      | (with_reducible exact LeO.none _)
      | (with_reducible refine LeO.ite ?_ ?_)
      | (with_reducible refine LeO.bind ?_ (fun _ => ?_))
      | exact impl_IsPuzzle.mono _ _
      | exact impl_solve.mono _ _
      | exact LeO.none _
      | refine LeO.ite ?_ ?_
      | refine LeO.bind ?_ (fun _ => ?_)
set_option maxHeartbeats 8000000 in
set_option maxRecDepth 100000 in
theorem impl_Solutions.calls (k : Nat) (A0_0 : Option Addr) (c0_0 : Nat) (l0_0 : List (S77)) (r1 : List (List Int)) (r2 : Bool) (w : World) (hr0_0 : Kd.C k77 w A0_0 l0_0.length l0_0) (hc0_0 : l0_0.length ≤ c0_0) (h : impl_Solutions.f k l0_0 = some (r1, r2)) :
    Calls Try.prog 37 #[.agg #[.slice A0_0 l0_0.length c0_0]] w fun e w' => ∃ v0_ : Value, e = .returned (.tuple #[v0_, .bool r2]) ∧ Kd.S (Kd.slice 3 (Kd.int .i64)) 26 w' w.heap.size (fun _ => True) v0_ r1 ∧ Below w.heap.size w w' := by
  have hu44 := Try.underlying44
  have HR0_0 := Aside0.mk hr0_0
  have HC0_0 := Aside0.mk hc0_0
  clear hr0_0 hc0_0
  have HB := Aside0.mk (Below.refl w.heap.size w)
  have H : ((impl_IsPuzzle.f k l0_0).bind fun t247 => (if t247 = true then ((impl_solve.f k l0_0).bind fun t248 => (some (t248, true))) else (some (([] : List (List Int)), false)))) = some (r1, r2) := h
  clear h
  replace H := Option.bind_eq_some_iff.mp H
  obtain ⟨t247, A20, H⟩ := H
  replace H : (if t247 = true then ((impl_solve.f k l0_0).bind fun t248 => (some (t248, true))) else (some (([] : List (List Int)), false))) = some (r1, r2) := H
  have A2 := Aside0.mk A20
  clear A20
  by_cases c3 : t247 = true
  · subst c3
    have H1 : ((impl_solve.f k l0_0).bind fun t248 => (some (t248, true))) = some (r1, r2) := by rw [if_pos rfl] at H; exact H
    clear H
    have H := H1
    clear H1
    replace H := Option.bind_eq_some_iff.mp H
    obtain ⟨t248, A40, H⟩ := H
    replace H : (some (t248, true)) = some (r1, r2) := H
    have A4 := Aside0.mk A40
    clear A40
    simp only [Option.some.injEq, Prod.mk.injEq] at H
    obtain ⟨rfl, rfl⟩ := H
    go_enter Try.func37, Try.ntmps37
    go_wp2_with (first | ((with_reducible refine gate_dst (N := 1) rfl ?_); refine box_event ?hg (N := 1) ?hd (cs := #[.slice A0_0 l0_0.length c0_0]) (t := 44) ?hr ?_; (case hd => rfl); (case hg => rfl); (case hr => first | (go_simp; done) | (go_simp; rfl)); intro gb246 hg w5 hbox hb; have n0_ := Aside0.mk (below_step (by repeat (first | (with_reducible first | exact HB.out | apply below_alloc | apply pw_below_drewN | apply below_drew1) | exact HB.out)) hb); have n1_ := Aside0.mk (hbox); have n2_ := Aside0.mk ((by rw [hg]; exact (below_size (by repeat (first | (with_reducible first | exact HB.out | apply below_alloc | apply pw_below_drewN | apply below_drew1) | exact HB.out))) : w.heap.size ≤ gb246)); have n3_ := Aside0.mk ((by rw [hg]; exact (below_size (by repeat (first | (with_reducible first | exact HB.out | apply below_alloc | apply pw_below_drewN | apply below_drew1) | exact HB.out))) : w.heap.size ≤ gb246)); clear HB; have HB := n0_; have BK246 := n1_; have GW246 := n2_; have GE246 := n3_; clear n0_ n1_ n2_ n3_; clear hb hbox hg; have hcz6_0 : w5.cell? ⟨gb246, 0, none⟩ = some (.slice A0_0 l0_0.length c0_0) := (blk_cell BK246.out 0).trans rfl; have hfz6_0 := blk_frozen BK246.out 0) | ((with_reducible refine gate_callee (f := 64) rfl ?_); refine goesL_ (some 5) rfl rfl Try.func64 (by kernel_rfl) rfl #[.agg #[.slice A0_0 l0_0.length c0_0]] rfl (by (try simp only [List.map_toArray, List.map_cons, List.map_nil]); first | done | rfl | (simp only [List.length_drop, List.length_take]; rfl)) ?_; (with_reducible refine (impl_IsPuzzle.calls k _ _ l0_0 true _ ?side1 ?side2 A2.out).mono ?_); (case side1 => repeat (first | exact (Kd.C_below HR0_0.out HB.out) | (with_reducible refine Kd.C_alloc ?_ _) | (with_reducible refine Kd.C_drewN ?_ _) | (with_reducible refine Kd.C_drew ?_))); (case side2 => exact HC0_0.out); rintro e w7 ⟨rfl, hb⟩; refine ⟨_, rfl, ?_⟩; have n0_ := Aside0.mk (blk_below (g := gb246) (o := .cells #[.slice A0_0 l0_0.length c0_0] 44 (0, 0)) (by (with_reducible repeat (first | refine blk_drewN ?_ _ | refine blk_drew ?_ | refine blk_alloc ?_ _)); exact BK246.out) hb); have n1_ := Aside0.mk (below_step (by repeat (first | (with_reducible first | exact HB.out | apply below_alloc | apply pw_below_drewN | apply below_drew1 | refine below_set ?_ GE246.out) | exact HB.out)) hb); clear BK246; clear HB; have BK246 := n0_; have HB := n1_; clear n0_ n1_; (try clear hb); (try clear hb2); (try clear hk); (try clear hi); have hcz8_0 : w7.cell? ⟨gb246, 0, none⟩ = some (.slice A0_0 l0_0.length c0_0) := (blk_cell BK246.out 0).trans rfl; have hfz8_0 := blk_frozen BK246.out 0) | ((with_reducible refine gate_callee (f := 65) rfl ?_); refine goesL_ (some 9) rfl rfl Try.func65 (by kernel_rfl) rfl #[.slice A0_0 l0_0.length c0_0] rfl (by (try simp only [List.map_toArray, List.map_cons, List.map_nil]); first | done | rfl | (simp only [List.length_drop, List.length_take]; rfl)) ?_; (with_reducible refine (impl_solve.calls k _ _ l0_0 t248 _ ?side1 ?side2 A4.out).mono ?_); (case side1 => repeat (first | exact (Kd.C_below HR0_0.out HB.out) | (with_reducible refine Kd.C_alloc ?_ _) | (with_reducible refine Kd.C_drewN ?_ _) | (with_reducible refine Kd.C_drew ?_))); (case side2 => exact HC0_0.out); rintro e w9 ⟨v249, rfl, ho0, hb⟩; refine ⟨_, rfl, ?_⟩; have n0_ := Aside0.mk (Kd.S_lower ho0 (below_size (by repeat (first | (with_reducible first | exact HB.out | apply below_alloc | apply pw_below_drewN | apply below_drew1 | refine below_set ?_ GE246.out) | exact HB.out)))); have n1_ := Aside0.mk (blk_below (g := gb246) (o := .cells #[.slice A0_0 l0_0.length c0_0] 44 (0, 0)) (by (with_reducible repeat (first | refine blk_drewN ?_ _ | refine blk_drew ?_ | refine blk_alloc ?_ _)); exact BK246.out) hb); have n2_ := Aside0.mk (below_step (by repeat (first | (with_reducible first | exact HB.out | apply below_alloc | apply pw_below_drewN | apply below_drew1 | refine below_set ?_ GE246.out) | exact HB.out)) hb); clear BK246; clear HB; have HO250 := n0_; have BK246 := n1_; have HB := n2_; clear n0_ n1_ n2_; (try clear hb); (try clear hb2); (try clear hk); (try clear hi); (try clear ho0)))
    go_ret2
    exact ⟨_, by first | rfl | (simp [errW_none, errW_some] <;> rfl) | (simp [*, errW_none, errW_some] <;> rfl), by (with_reducible repeat (first | apply Kd.S_alloc | apply Kd.S_drewN | apply Kd.S_drew)); exact HO250.out, by repeat (first | (with_reducible first | exact HB.out | apply below_alloc | apply pw_below_drewN | apply below_drew1 | refine below_set ?_ GE246.out) | exact HB.out)⟩
  · replace c3 := Bool.eq_false_iff.mpr c3
    subst c3
    have H1 : (some (([] : List (List Int)), false)) = some (r1, r2) := by rw [if_neg (show ¬ (false = true) by decide)] at H; exact H
    clear H
    have H := H1
    clear H1
    simp only [Option.some.injEq, Prod.mk.injEq] at H
    obtain ⟨rfl, rfl⟩ := H
    go_enter Try.func37, Try.ntmps37
    go_wp2_with (first | ((with_reducible refine gate_dst (N := 1) rfl ?_); refine box_event ?hg (N := 1) ?hd (cs := #[.slice A0_0 l0_0.length c0_0]) (t := 44) ?hr ?_; (case hd => rfl); (case hg => rfl); (case hr => first | (go_simp; done) | (go_simp; rfl)); intro gb246 hg w10 hbox hb; have n0_ := Aside0.mk (below_step (by repeat (first | (with_reducible first | exact HB.out | apply below_alloc | apply pw_below_drewN | apply below_drew1) | exact HB.out)) hb); have n1_ := Aside0.mk (hbox); have n2_ := Aside0.mk ((by rw [hg]; exact (below_size (by repeat (first | (with_reducible first | exact HB.out | apply below_alloc | apply pw_below_drewN | apply below_drew1) | exact HB.out))) : w.heap.size ≤ gb246)); have n3_ := Aside0.mk ((by rw [hg]; exact (below_size (by repeat (first | (with_reducible first | exact HB.out | apply below_alloc | apply pw_below_drewN | apply below_drew1) | exact HB.out))) : w.heap.size ≤ gb246)); clear HB; have HB := n0_; have BK246 := n1_; have GW246 := n2_; have GE246 := n3_; clear n0_ n1_ n2_ n3_; clear hb hbox hg; have hcz11_0 : w10.cell? ⟨gb246, 0, none⟩ = some (.slice A0_0 l0_0.length c0_0) := (blk_cell BK246.out 0).trans rfl; have hfz11_0 := blk_frozen BK246.out 0) | ((with_reducible refine gate_callee (f := 64) rfl ?_); refine goesL_ (some 5) rfl rfl Try.func64 (by kernel_rfl) rfl #[.agg #[.slice A0_0 l0_0.length c0_0]] rfl (by (try simp only [List.map_toArray, List.map_cons, List.map_nil]); first | done | rfl | (simp only [List.length_drop, List.length_take]; rfl)) ?_; (with_reducible refine (impl_IsPuzzle.calls k _ _ l0_0 false _ ?side1 ?side2 A2.out).mono ?_); (case side1 => repeat (first | exact (Kd.C_below HR0_0.out HB.out) | (with_reducible refine Kd.C_alloc ?_ _) | (with_reducible refine Kd.C_drewN ?_ _) | (with_reducible refine Kd.C_drew ?_))); (case side2 => exact HC0_0.out); rintro e w12 ⟨rfl, hb⟩; refine ⟨_, rfl, ?_⟩; have n0_ := Aside0.mk (blk_below (g := gb246) (o := .cells #[.slice A0_0 l0_0.length c0_0] 44 (0, 0)) (by (with_reducible repeat (first | refine blk_drewN ?_ _ | refine blk_drew ?_ | refine blk_alloc ?_ _)); exact BK246.out) hb); have n1_ := Aside0.mk (below_step (by repeat (first | (with_reducible first | exact HB.out | apply below_alloc | apply pw_below_drewN | apply below_drew1 | refine below_set ?_ GE246.out) | exact HB.out)) hb); clear BK246; clear HB; have BK246 := n0_; have HB := n1_; clear n0_ n1_; (try clear hb); (try clear hb2); (try clear hk); (try clear hi)))
    go_ret2
    exact ⟨_, by first | rfl | (simp [errW_none, errW_some] <;> rfl) | (simp [*, errW_none, errW_some] <;> rfl), by first | exact Kd.S_nil _ _ _ _ _ | exact Kd.N_nil _ _ _ _ _ | exact Kd.V_nil _ _ _ _ _ | exact Kd.Q_nil _ _ _ _ _ | exact Kd.R_nil _ _ _ _ _, by repeat (first | (with_reducible first | exact HB.out | apply below_alloc | apply pw_below_drewN | apply below_drew1 | refine below_set ?_ GE246.out) | exact HB.out)⟩

/-! ### impl_CountSolutions: function 25 -/
def impl_CountSolutions.f (k : Nat) (l0_0 : List (S77)) : Option (Int × Bool) := (impl_Solutions.f k l0_0).bind fun bt252 => (some ((bt252.1.length : Int), bt252.2))
theorem impl_CountSolutions.mono : ∀ a0 k, LeO (impl_CountSolutions.f k a0) (impl_CountSolutions.f (k + 1) a0) := by
  intro a0 k
  unfold impl_CountSolutions.f
  repeat' first
      | (with_reducible exact impl_Solutions.mono _ _)
      | (with_reducible exact LeO.refl _)
      | (with_reducible exact LeO.none _)
      | (with_reducible refine LeO.ite ?_ ?_)
      | (with_reducible refine LeO.bind ?_ (fun _ => ?_))
      | exact impl_Solutions.mono _ _
      | exact LeO.none _
      | refine LeO.ite ?_ ?_
      | refine LeO.bind ?_ (fun _ => ?_)
set_option maxHeartbeats 8000000 in
set_option maxRecDepth 100000 in
theorem impl_CountSolutions.calls (k : Nat) (A0_0 : Option Addr) (c0_0 : Nat) (l0_0 : List (S77)) (r1 : Int) (r2 : Bool) (w : World) (hr0_0 : Kd.C k77 w A0_0 l0_0.length l0_0) (hc0_0 : l0_0.length ≤ c0_0) (h : impl_CountSolutions.f k l0_0 = some (r1, r2)) :
    Calls Try.prog 25 #[.agg #[.slice A0_0 l0_0.length c0_0]] w fun e w' => e = .returned (.tuple #[.int .i64 r1, .bool r2]) ∧ Below w.heap.size w w' := by
  have hu44 := Try.underlying44
  have HR0_0 := Aside0.mk hr0_0
  have HC0_0 := Aside0.mk hc0_0
  clear hr0_0 hc0_0
  have HB := Aside0.mk (Below.refl w.heap.size w)
  have H : ((impl_Solutions.f k l0_0).bind fun bt252 => (some ((bt252.1.length : Int), bt252.2))) = some (r1, r2) := h
  clear h
  replace H := Option.bind_eq_some_iff.mp H
  obtain ⟨⟨t252, t255⟩, A20, H⟩ := H
  replace H : (some ((t252.length : Int), t255)) = some (r1, r2) := H
  have A2 := Aside0.mk A20
  clear A20
  simp only [Option.some.injEq, Prod.mk.injEq] at H
  obtain ⟨rfl, rfl⟩ := H
  go_enter Try.func25, Try.ntmps25
  go_wp2_with (first | ((with_reducible refine gate_dst (N := 1) rfl ?_); refine box_event ?hg (N := 1) ?hd (cs := #[.slice A0_0 l0_0.length c0_0]) (t := 44) ?hr ?_; (case hd => rfl); (case hg => rfl); (case hr => first | (go_simp; done) | (go_simp; rfl)); intro gb251 hg w3 hbox hb; have n0_ := Aside0.mk (below_step (by repeat (first | (with_reducible first | exact HB.out | apply below_alloc | apply pw_below_drewN | apply below_drew1) | exact HB.out)) hb); have n1_ := Aside0.mk (hbox); have n2_ := Aside0.mk ((by rw [hg]; exact (below_size (by repeat (first | (with_reducible first | exact HB.out | apply below_alloc | apply pw_below_drewN | apply below_drew1) | exact HB.out))) : w.heap.size ≤ gb251)); have n3_ := Aside0.mk ((by rw [hg]; exact (below_size (by repeat (first | (with_reducible first | exact HB.out | apply below_alloc | apply pw_below_drewN | apply below_drew1) | exact HB.out))) : w.heap.size ≤ gb251)); clear HB; have HB := n0_; have BK251 := n1_; have GW251 := n2_; have GE251 := n3_; clear n0_ n1_ n2_ n3_; clear hb hbox hg; have hcz4_0 : w3.cell? ⟨gb251, 0, none⟩ = some (.slice A0_0 l0_0.length c0_0) := (blk_cell BK251.out 0).trans rfl; have hfz4_0 := blk_frozen BK251.out 0) | ((with_reducible refine gate_callee (f := 37) rfl ?_); refine goesL_ (some 8) rfl rfl Try.func37 (by kernel_rfl) rfl #[.agg #[.slice A0_0 l0_0.length c0_0]] rfl (by (try simp only [List.map_toArray, List.map_cons, List.map_nil]); first | done | rfl | (simp only [List.length_drop, List.length_take]; rfl)) ?_; (with_reducible refine (impl_Solutions.calls k _ _ l0_0 t252 t255 _ ?side1 ?side2 A2.out).mono ?_); (case side1 => repeat (first | exact (Kd.C_below HR0_0.out HB.out) | (with_reducible refine Kd.C_alloc ?_ _) | (with_reducible refine Kd.C_drewN ?_ _) | (with_reducible refine Kd.C_drew ?_))); (case side2 => exact HC0_0.out); rintro e w5 ⟨v253, rfl, ho0, hb⟩; refine ⟨_, rfl, ?_⟩; have n0_ := Aside0.mk (Kd.S_lower ho0 (below_size (by repeat (first | (with_reducible first | exact HB.out | apply below_alloc | apply pw_below_drewN | apply below_drew1 | refine below_set ?_ GE251.out) | exact HB.out)))); have n1_ := Aside0.mk (blk_below (g := gb251) (o := .cells #[.slice A0_0 l0_0.length c0_0] 44 (0, 0)) (by (with_reducible repeat (first | refine blk_drewN ?_ _ | refine blk_drew ?_ | refine blk_alloc ?_ _)); exact BK251.out) hb); have n2_ := Aside0.mk (below_step (by repeat (first | (with_reducible first | exact HB.out | apply below_alloc | apply pw_below_drewN | apply below_drew1 | refine below_set ?_ GE251.out) | exact HB.out)) hb); clear BK251; clear HB; have HO254 := n0_; have BK251 := n1_; have HB := n2_; clear n0_ n1_ n2_; (try clear hb); (try clear hb2); (try clear hk); (try clear hi); (try clear ho0); obtain ⟨Ao6, co6, eo6⟩ := Kd.S_slice HO254.out; subst eo6))
  go_ret2
  exact ⟨by first | rfl | (simp [errW_none, errW_some] <;> rfl) | (simp [*, errW_none, errW_some] <;> rfl), by repeat (first | (with_reducible first | exact HB.out | apply below_alloc | apply pw_below_drewN | apply below_drew1 | refine below_set ?_ GE251.out) | exact HB.out)⟩

/-! ### impl_Clue_71: function 71 -/
/-- A copy. -/
def impl_Clue_71.f (l0 : List (S77)) : Option (List (S77)) := if l0.length < 4398046511104 then (some l0) else (none)
set_option maxHeartbeats 2000000 in
set_option maxRecDepth 100000 in
theorem impl_Clue_71.calls (A0 : Option Addr) (c0 : Nat) (l0 : List (S77)) (r : List (S77)) (w : World) (hr0 : Kd.C k77 w A0 l0.length l0) (hc0 : l0.length ≤ c0) (h : impl_Clue_71.f l0 = some r) :
    Calls Try.prog 71 #[.slice A0 l0.length c0] w fun e w' => ∃ v0_ : Value, e = .returned (v0_) ∧ Kd.R k77 77 w' w.heap.size (fun _ => True) v0_ r ∧ Below w.heap.size w w' := by
  have HR0 := Aside0.mk hr0
  have HB := Aside0.mk (Below.refl w.heap.size w)
  by_cases c2 : l0.length < 4398046511104
  · have H : l0 = r := by unfold impl_Clue_71.f at h; rw [if_pos c2] at h; exact Option.some.inj h
    subst H
    clear h
    have LM := Aside0.mk c2
    clear c2 hr0 hc0
    cases A0 with
    | none =>
      have hnil := fun W => Go.Lib.run_eql_slice_nil (P := Try.prog) W 42 77 none l0.length c0 0 0 Try.underlying42
      go_enter Try.func71, Try.ntmps71
      go_wp2
      go_ret
      have e0 : l0 = [] := by
        rcases l0 with _ | ⟨x, s⟩
        · rfl
        · obtain ⟨ad, he, _⟩ := HR0.out.2.2 (by simp)
          cases he
      subst e0
      exact ⟨_, rfl, Kd.R_nil _ _ _ _ _, Below.refl _ _⟩
    | some ad =>
      have hnil := fun W => Go.Lib.run_eql_slice_nil (P := Try.prog) W 42 77 (some ad) l0.length c0 0 0 Try.underlying42
      go_enter Try.func71, Try.ntmps71
      go_wp2_with (first | ((with_reducible refine gate_dst (N := 5) rfl ?_); refine Kd.R_lit k77 _ 77 ?hg (N := 5) ?hd (xs := ([] : List (S77))) (inner := []) (ok := fun _ => True) (okp := fun _ => True) ?hr ?hp (fun _ hk => hk) trivial (Below.refl _ _) (Nat.le_refl _) (by simp) ?_; (case hd => rfl); (case hg => rfl); (case hr => first | (go_simp; done) | (go_simp; rfl)); (case hp => exact (Reps.none _ _)); intro v120 w3 ho4 hb hg_ hnew_; clear hg_ hnew_; have n0_ := Aside0.mk (Kd.R_lower ho4 (below_size (by repeat (first | (with_reducible first | exact HB.out | apply below_alloc | apply pw_below_drewN | apply below_drew1) | exact HB.out)))); have n1_ := Aside0.mk (below_step (by repeat (first | (with_reducible first | exact HB.out | apply below_alloc | apply pw_below_drewN | apply below_drew1) | exact HB.out)) hb); clear HB; have HO121 := n0_; have HB := n1_; clear n0_ n1_; clear hb ho4) | ((with_reducible refine gate_builtin (b := .append) (xs := #[.tmp 5, .tmp 6]) rfl ?_); at_builtin; refine Kd.R_append_rows k77 (w0 := w) w.heap.size rfl (.tmp 5) (.tmp 6) 42 77 (.agg #[(.int .i64 0), (.int .i64 0), (.int .i64 0)]) 24 rfl Try.underlying42 info77 rfl (by decide) (by omega) v120 [] l0 _ _ _ (fun _ => True) (fun _ => False) rfl rfl ?aO ?aR (fun _ _ h => h) (fun _ h => h.elim) ?aF ?aB ?aS ?aL ?_; (case aR => repeat (first | exact (Kd.C_below HR0.out HB.out) | (with_reducible refine Kd.C_alloc ?_ _) | (with_reducible refine Kd.C_drewN ?_ _) | (with_reducible refine Kd.C_drew ?_))); (case aB => exact (by repeat (first | (with_reducible first | exact HB.out | apply below_alloc | apply pw_below_drewN | apply below_drew1) | exact HB.out))); (case aF => exact (fun _ _ => trivial)); (case aO => exact (by (with_reducible repeat (first | apply Kd.R_alloc | apply Kd.R_drewN | apply Kd.R_drew)); exact HO121.out)); (case aS => exact (below_size (by repeat (first | (with_reducible first | exact HB.out | apply below_alloc | apply pw_below_drewN | apply below_drew1) | exact HB.out)))); (case aL => have := LM.out; simp; omega); intro v123 w5 ho hb hg hat; have n0_ := Aside0.mk (hb); have n1_ := Aside0.mk (ho); clear HB; clear HO121; have HB := n0_; have HO124 := n1_; clear n0_ n1_; clear ho hb hg hat))
      go_ret
      exact ⟨_, rfl, HO124.out, HB.out⟩
  · unfold impl_Clue_71.f at h
    rw [if_neg c2] at h
    cases h


/-! ### impl_Clue_102: function 102 -/
-- USES delete
set_option maxHeartbeats 1600000 in
set_option maxRecDepth 1000000 in
theorem delete_Clue (base g n cap i : Nat) (xs : List Value) (w : World) (HO : w.ownsRow base 77 3 (.slice (some ⟨g, 0, none⟩) n cap) n xs) (h1x : ∀ u ∈ xs, u.oneCell' = true) (hi : i < n) (hn : n ≤ 1000000000) :
    Calls Try.prog 102 #[.slice (some ⟨g, 0, none⟩) n cap, .int .i64 i, .int .i64 ((i : Int) + 1)] w fun e w' => e = .returned (.slice (some ⟨g, 0, none⟩) (n - 1) cap) ∧ w'.ownsRow base 77 3 (.slice (some ⟨g, 0, none⟩) (n - 1) cap) (n - 1) (xs.take (i * 3) ++ xs.drop ((i + 1) * 3)) ∧ w.grownBy w' (some g) := by
  obtain ⟨m, rfl⟩ : ∃ m, n = i + 1 + m := ⟨n - (i + 1), by omega⟩
  have HO' := Aside0.mk HO
  clear HO
  have hi1 : (i : Int) < ((i + 1 + m : Nat) : Int) := by omega
  have hi2 : ((i : Int) + 1).toNat = i + 1 := by omega
  have hi3 : (i : Int) + 1 ≤ ((i + 1 + m : Nat) : Int) := by omega
  have hi4 : (0 : Int) ≤ (i : Int) + 1 := by omega
  have hi5 : (i : Int) ≤ (i : Int) + 1 := by omega
  have hi6 : ((i : Int) == (i : Int) + 1) = false := by simp; omega
  have hnc : i + 1 + m ≤ cap := by
    rcases HO'.out.2 with ⟨h, _⟩ | ⟨g', cap', cur, h, _, _, h2, _⟩
    · cases h
    · injection h with h1 h3 h4; omega
  have hi7 : (i : Int) + 1 ≤ (i : Int) + 1 + (m : Int) := by omega
  have hnc3 : (i : Int) + 1 + (m : Int) ≤ (cap : Int) := by omega
  have hnc2 : ((i + 1 + m : Nat) : Int) ≤ (cap : Int) := by omega
  have hl : xs.length = (i + 1 + m) * 3 := HO'.out.1
  have e31 : (i + 1) * 3 = i * 3 + 3 := by omega
  have hcell : ∀ j, j < (i + 1 + m) * 3 → w.drew.cell? ⟨g, j, none⟩ = xs[j]? := by
    intro j hj
    have := HO'.out.cells (g := g) rfl j (xs[j]'(by omega)) (List.getElem?_eq_getElem (by omega))
    rw [add_plain] at this
    rw [List.getElem?_eq_getElem (by omega)]
    exact this
  obtain ⟨A, hA, hnews⟩ : ∃ A : Addr, (if cap = i + 1 then some (⟨g, 0, none⟩ : Addr) else some ⟨g, (i + 1) * 3, none⟩) = some A ∧ Aside0 (∀ j u, (xs.drop ((i + 1) * 3))[j]? = some u → w.drew.cell? (A.add j) = some u) := by
    by_cases h : cap = i + 1
    · refine ⟨⟨g, 0, none⟩, by simp [h], ⟨fun j u hu => ?_⟩⟩
      rw [List.getElem?_eq_none (by rw [List.length_drop, hl]; omega)] at hu
      cases hu
    · refine ⟨⟨g, (i + 1) * 3, none⟩, by simp [h], ⟨fun j u hu => ?_⟩⟩
      have hj : j < (xs.drop ((i + 1) * 3)).length := (List.getElem?_eq_some_iff.1 hu).1
      rw [List.length_drop, hl] at hj
      rw [Addr.add_lit, hcell _ (by omega), ← hu, List.getElem?_drop]
  have s1 : Aside0 ((xs.drop ((i + 1) * 3)).length = m * 3) := ⟨by rw [List.length_drop, hl]; omega⟩
  have s2 : Aside0 (∀ u ∈ xs.drop ((i + 1) * 3), u.oneCell' = true) := ⟨fun u hu => h1x u (List.mem_of_mem_drop hu)⟩
  have hfz := own_frozen HO'.out
  have s3 : Aside0 (∀ j, j < (xs.drop ((i + 1) * 3)).length → (w.drew.cell? ⟨g, 0 + i * 3 + j, none⟩).isSome = true ∧ w.drew.frozen? ⟨g, 0 + i * 3 + j, none⟩ = false) := ⟨fun j hj => by
    rw [List.length_drop, hl] at hj
    rw [Nat.zero_add, hcell _ (by omega), List.getElem?_eq_getElem (by omega)]
    exact ⟨rfl, hfz _⟩⟩
  have hclr : (Builtin.clear_ #[42] 0 #[.slice (some ⟨g, (i + m) * 3, none⟩) (i + 1 + m - (i + m)) (cap - (i + m))]).run Try.prog (w.drew.setCells g (i * 3) (xs.drop ((i + 1) * 3))) = .ok (.tuple #[]) ((w.drew.setCells g (i * 3) (xs.drop ((i + 1) * 3))).setCells g ((i + m) * 3) [.int .i64 0, .int .i64 0, .int .i64 0]) := by
    rw [show i + 1 + m - (i + m) = 1 by omega]
    refine run_clear_one _ 42 77 0 (.agg #[.int .i64 0, .int .i64 0, .int .i64 0]) _ Try.underlying42 (fun _ => by kernel_rfl) (by kernel_rfl) (by simp [Value.oneCell']) g _ _ (fun j hj => ?_) (fun j hj => ?_)
    · refine World.isSome_setCells g _ _ _ _ ?_
      simp at hj
      rw [hcell _ (by omega), List.getElem?_eq_getElem (by omega)]
      rfl
    · rw [World.frozen?_setCells]; exact hfz _
  have hic : i ≤ cap := by omega
  obtain ⟨i0, hi0, hzz⟩ := Option.map_eq_some_iff.1 info77
  simp only [Prod.mk.injEq] at hzz
  obtain ⟨hz0, hz1, hz2⟩ := hzz
  have HC := Aside0.mk hcell
  have HL := Aside0.mk hl
  clear hcell hl e31 h1x hfz
  go_enter Try.func102, Try.ntmps102
  go_wp2_with fail
  go_region_law (refine step_append_room rfl (.tmp 22) (.tmp 25) 42 rfl 77 i0 3 Try.underlying42 hi0 hz1 g 0 i cap (by simp [Act.eval, Act.put]) A m (cap - (i + 1)) (xs.drop ((i + 1) * 3)) (by simp [Act.eval, Act.put]) s1.out hnews.out s2.out (by omega) s3.out ?_)
  go_wp2_with fail
  go_ret
  have hcut := own_cut (sz := 3) (zs := [.int .i64 0, .int .i64 0, .int .i64 0]) (w := w.drew) (i := i) HO'.out (by omega) rfl
  rw [show i + 1 + m - 1 = i + m by omega] at hcut ⊢
  exact ⟨rfl, hcut.1, ⟨hcut.2.os, hcut.2.tape, hcut.2.output, hcut.2.size, hcut.2.block⟩⟩
theorem deleteR_Clue {base : Nat} {ok : Nat → Prop} {v : Value} {l : List (S77)} {i : Nat} {w : World} (HO : Kd.R k77 77 w base ok v l) (hi : i < l.length) (hn : l.length ≤ 1000000000) :
    Calls Try.prog 102 #[v, .int .i64 i, .int .i64 ((i : Int) + 1)] w fun e w' => ∃ v', e = .returned v' ∧ Kd.R k77 77 w' base ok v' (l.eraseIdx i) ∧ w.grownBy w' v.ownBlock := by
  obtain ⟨hok, inner, ho, hr⟩ := HO
  obtain ⟨g, cap, rfl, hb, hg⟩ := World.ownsRow.form ho (by omega)
  have h1 : ∀ u ∈ inner, u.oneCell' = true := by
    intro u hu
    obtain ⟨q, hq, rfl⟩ := List.getElem_of_mem hu
    have hq3 : q / k77.sz < l.length := (Nat.div_lt_iff_lt_mul (by decide)).2 (by rw [← hr.1]; exact hq)
    have := hr.2 (q / k77.sz) _ (List.getElem?_eq_getElem hq3)
    refine k77.K_one (k77.K_of_M this) _ ?_
    rw [List.mem_iff_getElem?]
    refine ⟨q % k77.sz, ?_⟩
    rw [List.getElem?_take_of_lt (Nat.mod_lt _ (by decide)), List.getElem?_drop, Nat.mul_comm, Nat.div_add_mod, List.getElem?_eq_getElem hq]
  refine (delete_Clue base g l.length cap i inner w ho h1 hi hn).mono ?_
  rintro e w' ⟨rfl, ho', hg'⟩
  refine ⟨_, rfl, ⟨fun k hk => hok k hk, _, ?_, reps_erase (hr.imp_ (fun _ _ hp => ?_)) hi⟩, hg'⟩
  · rw [List.length_eraseIdx_of_lt hi]; exact ho'
  · exact Kd.M_grown hp hg' (fun k hk => hk.2)



/-! ### impl_dropped: function 70 -/
def impl_dropped.f (l0 : List (S77)) (a1 : Int) : Option (List (S77)) := if 0 ≤ a1 then (if a1 < (l0.length : Int) then (if l0.length ≤ 1000000 then some (l0.eraseIdx a1.toNat) else none) else none) else none
set_option maxHeartbeats 1600000 in
theorem impl_dropped.calls (A0 : Option Addr) (c0 : Nat) (l0 : List (S77)) (a1 : Int) (r : List (S77)) (w : World) (hr0 : Kd.C k77 w A0 l0.length l0) (hc0 : l0.length ≤ c0) (h : impl_dropped.f l0 a1 = some r) :
    Calls Try.prog 70 #[.slice A0 l0.length c0, .int .i64 a1] w fun e w' => ∃ v0_ : Value, e = .returned (v0_) ∧ Kd.R k77 77 w' w.heap.size (fun _ => True) v0_ r ∧ Below w.heap.size w w' := by
  unfold impl_dropped.f at h
  by_cases c1 : 0 ≤ a1
  · by_cases c2 : a1 < (l0.length : Int)
    · by_cases c3 : l0.length ≤ 1000000
      · rw [if_pos c1, if_pos c2, if_pos c3] at h
        obtain rfl := Option.some.inj h
        obtain ⟨i, rfl⟩ := Int.eq_ofNat_of_zero_le c1
        have hi : i < l0.length := by omega
        have ha : (i : Int) + 1 ≤ 9223372036854775807 := by omega
        have HR := Aside0.mk hr0
        have HH := Aside0.mk hi
        have HL := Aside0.mk c3
        have hf : impl_Clue_71.f l0 = some l0 := by unfold impl_Clue_71.f; rw [if_pos (by omega)]
        have HF := Aside0.mk hf
        clear h c1 c2 hr0 hf hi c3
        go_enter Try.func70, Try.ntmps70
        go_wp2_with (first | (go_at_call 71; refine (impl_Clue_71.calls A0 c0 l0 l0 _ HR.out hc0 HF.out).mono ?_; rintro e w1 ⟨v1, rfl, ho, hb⟩) | (go_at_call 102; refine (deleteR_Clue ho HH.out (by have := HL.out; omega)).mono ?_; rintro e w2 ⟨v2, rfl, ho2, hg2⟩))
        go_ret
        obtain ⟨inner, ho'⟩ := Kd.R_own ho
        exact ⟨_, rfl, by rw [Int.toNat_natCast]; exact ho2, hb.grown hg2 hb.size (own_base ho')⟩
      · rw [if_pos c1, if_pos c2, if_neg c3] at h; cases h
    · rw [if_pos c1, if_neg c2] at h; cases h
  · rw [if_neg c1] at h; cases h


/-! ### impl_NeedlessClues: function 42 -/
def impl_NeedlessClues.l0 : Nat → Int → List Int → Int → Int → List (S77) → Option (List Int × Bool)
  | 0, _, _, _, _, _ => none
  | k + 1, x4, x6, x18, x19, x257000 => if x19 < x18 then ((impl_dropped.f x257000 x19).bind fun t262 => ((impl_solve.f k t262).bind fun t265 => (if (t265.length : Int) = x4 then (if x6.length < 17592186044416 then (impl_NeedlessClues.l0 k x4 (x6 ++ [x19]) x18 (wrap64 (x19 + 1)) x257000) else (none)) else (impl_NeedlessClues.l0 k x4 x6 x18 (wrap64 (x19 + 1)) x257000)))) else (some (x6, true))
def impl_NeedlessClues.f (k : Nat) (l0_0 : List (S77)) : Option (List Int × Bool) := (impl_CountSolutions.f k l0_0).bind fun bt257 => (if bt257.2 = true then (impl_NeedlessClues.l0 k bt257.1 (([] : List Int)) (l0_0.length : Int) 0 l0_0) else (some (([] : List Int), false)))
theorem impl_NeedlessClues.mono_l : ∀ k, (∀ y0 y1 y2 y3 y4, LeO (impl_NeedlessClues.l0 k y0 y1 y2 y3 y4) (impl_NeedlessClues.l0 (k + 1) y0 y1 y2 y3 y4))
  | 0 => fun _ _ _ _ _ r h => by simp [impl_NeedlessClues.l0] at h
  | k + 1 => by
    have ih0 := impl_NeedlessClues.mono_l k
    · intro y0 y1 y2 y3 y4
      unfold impl_NeedlessClues.l0
      repeat' first
      | (with_reducible exact ih0 _ _ _ _ _)
      | (with_reducible exact impl_CountSolutions.mono _ _)
      | (with_reducible exact impl_solve.mono _ _)
      | (with_reducible exact LeO.refl _)
      | (with_reducible exact LeO.none _)
      | (with_reducible refine LeO.ite ?_ ?_)
      | (with_reducible refine LeO.bind ?_ (fun _ => ?_))
      | exact ih0 _ _ _ _ _
      | exact impl_CountSolutions.mono _ _
      | exact impl_solve.mono _ _
      | exact LeO.none _
      | refine LeO.ite ?_ ?_
      | refine LeO.bind ?_ (fun _ => ?_)
theorem impl_NeedlessClues.mono : ∀ a0 k, LeO (impl_NeedlessClues.f k a0) (impl_NeedlessClues.f (k + 1) a0) := by
  intro a0 k
  have ih0 := impl_NeedlessClues.mono_l k
  unfold impl_NeedlessClues.f
  repeat' first
      | (with_reducible exact ih0 _ _ _ _ _)
      | (with_reducible exact impl_CountSolutions.mono _ _)
      | (with_reducible exact impl_solve.mono _ _)
      | (with_reducible exact LeO.refl _)
      | (with_reducible exact LeO.none _)
      | (with_reducible refine LeO.ite ?_ ?_)
      | (with_reducible refine LeO.bind ?_ (fun _ => ?_))
      | exact ih0 _ _ _ _ _
      | exact impl_CountSolutions.mono _ _
      | exact impl_solve.mono _ _
      | exact LeO.none _
      | refine LeO.ite ?_ ?_
      | refine LeO.bind ?_ (fun _ => ?_)
set_option maxHeartbeats 8000000 in
set_option maxRecDepth 100000 in
theorem impl_NeedlessClues.calls (k : Nat) (A0_0 : Option Addr) (c0_0 : Nat) (l0_0 : List (S77)) (r1 : List Int) (r2 : Bool) (w : World) (hr0_0 : Kd.C k77 w A0_0 l0_0.length l0_0) (hc0_0 : l0_0.length ≤ c0_0) (h : impl_NeedlessClues.f k l0_0 = some (r1, r2)) :
    Calls Try.prog 42 #[.agg #[.slice A0_0 l0_0.length c0_0]] w fun e w' => ∃ v0_ : Value, e = .returned (.tuple #[v0_, .bool r2]) ∧ Kd.R (Kd.int .i64) 3 w' w.heap.size (fun _ => True) v0_ r1 ∧ Below w.heap.size w w' := by
  have hu44 := Try.underlying44
  have HR0_0 := Aside0.mk hr0_0
  have HC0_0 := Aside0.mk hc0_0
  clear hr0_0 hc0_0
  have HB := Aside0.mk (Below.refl w.heap.size w)
  have H : ((impl_CountSolutions.f k l0_0).bind fun bt257 => (if bt257.2 = true then (impl_NeedlessClues.l0 k bt257.1 (([] : List Int)) (l0_0.length : Int) 0 l0_0) else (some (([] : List Int), false)))) = some (r1, r2) := h
  clear h
  replace H := Option.bind_eq_some_iff.mp H
  obtain ⟨⟨t257, t258⟩, A20, H⟩ := H
  replace H : (if t258 = true then (impl_NeedlessClues.l0 k t257 (([] : List Int)) (l0_0.length : Int) 0 l0_0) else (some (([] : List Int), false))) = some (r1, r2) := H
  have A2 := Aside0.mk A20
  clear A20
  by_cases c3 : t258 = true
  · subst c3
    have H1 : (impl_NeedlessClues.l0 k t257 (([] : List Int)) (l0_0.length : Int) 0 l0_0) = some (r1, r2) := by rw [if_pos rfl] at H; exact H
    clear H
    have H := H1
    clear H1
    obtain ⟨y259, hy259⟩ : ∃ y_ : List Int, y_ = (([] : List Int)) := ⟨_, rfl⟩
    replace H : (impl_NeedlessClues.l0 k t257 y259 (l0_0.length : Int) 0 l0_0) = some (r1, r2) := by first | (rw [hy259]; with_reducible exact H) | (have H2_ := (Option.bind_some _ _).symm.trans H; rw [hy259]; with_reducible exact H2_) | (have H2_ := (Option.bind_some _ _).symm.trans H; with_reducible exact H2_) | with_reducible exact H | (rw [hy259]; exact H) | exact H
    have Ny259 := Aside0.mk hy259
    clear hy259
    have H' := Aside0.mk H
    clear H
    go_enter Try.func42, Try.ntmps42
    go_wp2_with (first | ((with_reducible refine gate_dst (N := 1) rfl ?_); refine box_event ?hg (N := 1) ?hd (cs := #[.slice A0_0 l0_0.length c0_0]) (t := 44) ?hr ?_; (case hd => rfl); (case hg => rfl); (case hr => first | (go_simp; done) | (go_simp; rfl)); intro gb256 hg w4 hbox hb; have n0_ := Aside0.mk (below_step (by repeat (first | (with_reducible first | exact HB.out | apply below_alloc | apply pw_below_drewN | apply below_drew1) | exact HB.out)) hb); have n1_ := Aside0.mk (hbox); have n2_ := Aside0.mk ((by rw [hg]; exact (below_size (by repeat (first | (with_reducible first | exact HB.out | apply below_alloc | apply pw_below_drewN | apply below_drew1) | exact HB.out))) : w.heap.size ≤ gb256)); have n3_ := Aside0.mk ((by rw [hg]; exact (below_size (by repeat (first | (with_reducible first | exact HB.out | apply below_alloc | apply pw_below_drewN | apply below_drew1) | exact HB.out))) : w.heap.size ≤ gb256)); clear HB; have HB := n0_; have BK256 := n1_; have GW256 := n2_; have GE256 := n3_; clear n0_ n1_ n2_ n3_; clear hb hbox hg; have hcz5_0 : w4.cell? ⟨gb256, 0, none⟩ = some (.slice A0_0 l0_0.length c0_0) := (blk_cell BK256.out 0).trans rfl; have hfz5_0 := blk_frozen BK256.out 0) | ((with_reducible refine gate_callee (f := 25) rfl ?_); refine goesL_ (some 10) rfl rfl Try.func25 (by kernel_rfl) rfl #[.agg #[.slice A0_0 l0_0.length c0_0]] rfl (by (try simp only [List.map_toArray, List.map_cons, List.map_nil]); first | done | rfl | (simp only [List.length_drop, List.length_take]; rfl)) ?_; (with_reducible refine (impl_CountSolutions.calls k _ _ l0_0 t257 true _ ?side1 ?side2 A2.out).mono ?_); (case side1 => repeat (first | exact (Kd.C_below HR0_0.out HB.out) | (with_reducible refine Kd.C_alloc ?_ _) | (with_reducible refine Kd.C_drewN ?_ _) | (with_reducible refine Kd.C_drew ?_))); (case side2 => exact HC0_0.out); rintro e w6 ⟨rfl, hb⟩; refine ⟨_, rfl, ?_⟩; have n0_ := Aside0.mk (blk_below (g := gb256) (o := .cells #[.slice A0_0 l0_0.length c0_0] 44 (0, 0)) (by (with_reducible repeat (first | refine blk_drewN ?_ _ | refine blk_drew ?_ | refine blk_alloc ?_ _)); exact BK256.out) hb); have n1_ := Aside0.mk (below_step (by repeat (first | (with_reducible first | exact HB.out | apply below_alloc | apply pw_below_drewN | apply below_drew1 | refine below_set ?_ GE256.out) | exact HB.out)) hb); clear BK256; clear HB; have BK256 := n0_; have HB := n1_; clear n0_ n1_; (try clear hb); (try clear hb2); (try clear hk); (try clear hi)) | ((with_reducible refine gate_dst (N := 15) rfl ?_); refine Kd.R_lit (Kd.int .i64) _ 3 ?hg (N := 15) ?hd (xs := ([] : List Int)) (inner := []) (ok := fun _ => True) (okp := fun _ => True) ?hr ?hp (fun _ hk => hk) trivial (Below.refl _ _) (Nat.le_refl _) (by simp) ?_; (case hd => rfl); (case hg => rfl); (case hr => first | (go_simp; done) | (go_simp; rfl)); (case hp => exact (Reps.none _ _)); intro v260 w7 ho8 hb hg_ hnew_; clear hg_ hnew_; (first | rw [← Ny259.out] at ho8 | (simp only [Int.reduceToNat] at ho8; rw [← Ny259.out] at ho8)); have n0_ := Aside0.mk (Kd.R_lower ho8 (below_size (by repeat (first | (with_reducible first | exact HB.out | apply below_alloc | apply pw_below_drewN | apply below_drew1 | refine below_set ?_ GE256.out) | exact HB.out)))); have n1_ := Aside0.mk (blk_below (g := gb256) (o := .cells #[.slice A0_0 l0_0.length c0_0] 44 (0, 0)) (by (with_reducible repeat (first | refine blk_drewN ?_ _ | refine blk_drew ?_ | refine blk_alloc ?_ _)); exact BK256.out) hb); have n2_ := Aside0.mk (below_step (by repeat (first | (with_reducible first | exact HB.out | apply below_alloc | apply pw_below_drewN | apply below_drew1 | refine below_set ?_ GE256.out) | exact HB.out)) hb); clear BK256; clear HB; have HO261 := n0_; have BK256 := n1_; have HB := n2_; clear n0_ n1_ n2_; clear hb ho8; have hcz9_0 : w7.cell? ⟨gb256, 0, none⟩ = some (.slice A0_0 l0_0.length c0_0) := (blk_cell BK256.out 0).trans rfl; have hfz9_0 := blk_frozen BK256.out 0))
    go_loopg [6, 19] k (fun kq v6 v19 w' => ∃ (x6_1 : List Int) (x19_1 : Int), v19 = .int .i64 x19_1 ∧ Aside0 (impl_NeedlessClues.l0 kq t257 x6_1 (l0_0.length : Int) x19_1 l0_0 = some (r1, r2)) ∧ Aside0 (kq ≤ k) ∧ Aside0 (Kd.R (Kd.int .i64) 3 w' w.heap.size (fun _ => True) v6 x6_1) ∧ Aside0 (w'.heap[gb256]? = some (.cells #[(.slice A0_0 l0_0.length c0_0)] 44 (0, 0))) ∧ Aside0 (Below w.heap.size w w'))
    case atStart => exact ⟨(y259), (0), (by first | rfl | (simp; done) | (simp [*]; done)), H', ⟨Nat.le_refl _⟩, ⟨by (with_reducible repeat (first | apply Kd.R_alloc | apply Kd.R_drewN | apply Kd.R_drew)); exact HO261.out⟩, ⟨by (with_reducible repeat (first | refine blk_drewN ?_ _ | refine blk_drew ?_ | refine blk_alloc ?_ _)); exact BK256.out⟩, ⟨by repeat (first | (with_reducible first | exact HB.out | apply below_alloc | apply pw_below_drewN | apply below_drew1 | refine below_set ?_ GE256.out) | exact HB.out)⟩⟩
    case round =>
      clear H'
      try clear c2
      try clear p2
      try clear c3
      try clear c4
      try clear hcz5_0
      try clear hcz9_0
      try clear hfz5_0
      try clear hfz9_0
      obtain ⟨x6_1, x19_1, rfl, HA, HK1, HO_6, BK256, HB⟩ := hrel
      cases gk with
      | zero => exact absurd HA.out (by simp [impl_NeedlessClues.l0])
      | succ k1 =>
        have H := HA.out
        clear HA
        simp only [impl_NeedlessClues.l0] at H
        by_cases c10 : x19_1 < (l0_0.length : Int)
        · rw [if_pos c10] at H
          have c10b0 : decide (x19_1 < (l0_0.length : Int)) = true := decide_eq_true c10
          clear c10
          replace H := Option.bind_eq_some_iff.mp H
          obtain ⟨t262, A110, H⟩ := H
          replace H : ((impl_solve.f k1 t262).bind fun t265 => (if (t265.length : Int) = t257 then (if x6_1.length < 17592186044416 then (impl_NeedlessClues.l0 k1 t257 (x6_1 ++ [x19_1]) (l0_0.length : Int) (wrap64 (x19_1 + 1)) l0_0) else (none)) else (impl_NeedlessClues.l0 k1 t257 x6_1 (l0_0.length : Int) (wrap64 (x19_1 + 1)) l0_0))) = some (r1, r2) := H
          have A11 := Aside0.mk A110
          clear A110
          replace H := Option.bind_eq_some_iff.mp H
          obtain ⟨t265, A120, H⟩ := H
          replace H : (if (t265.length : Int) = t257 then (if x6_1.length < 17592186044416 then (impl_NeedlessClues.l0 k1 t257 (x6_1 ++ [x19_1]) (l0_0.length : Int) (wrap64 (x19_1 + 1)) l0_0) else (none)) else (impl_NeedlessClues.l0 k1 t257 x6_1 (l0_0.length : Int) (wrap64 (x19_1 + 1)) l0_0)) = some (r1, r2) := H
          have A12 := Aside0.mk A120
          clear A120
          by_cases c13 : (t265.length : Int) = t257
          · rw [if_pos c13] at H
            have c13b0 : ((t265.length : Int) == t257) = true := beq_iff_eq.mpr c13
            have c13b1 : ((t265.length : Int) != t257) = false := bne_eq_false_iff_eq.mpr c13
            clear c13
            by_cases c14 : x6_1.length < 17592186044416
            · rw [if_pos c14] at H
              have LMc14 := Aside0.mk c14
              clear c14
              obtain ⟨y268, hy268⟩ : ∃ y_ : List Int, y_ = (x6_1 ++ [x19_1]) := ⟨_, rfl⟩
              replace H : (impl_NeedlessClues.l0 k1 t257 y268 (l0_0.length : Int) (wrap64 (x19_1 + 1)) l0_0) = some (r1, r2) := by first | (rw [hy268]; with_reducible exact H) | (have H2_ := (Option.bind_some _ _).symm.trans H; rw [hy268]; with_reducible exact H2_) | (have H2_ := (Option.bind_some _ _).symm.trans H; with_reducible exact H2_) | with_reducible exact H | (rw [hy268]; exact H) | exact H
              have Ny268 := Aside0.mk hy268
              clear hy268
              have H' := Aside0.mk H
              clear H
              have hcz15_0 : wr.cell? ⟨gb256, 0, none⟩ = some (.slice A0_0 l0_0.length c0_0) := (blk_cell BK256.out 0).trans rfl
              have hfz15_0 := blk_frozen BK256.out 0
              go_wp2_with (first | ((with_reducible refine gate_callee (f := 70) rfl ?_); refine goesL_ (some 25) rfl rfl Try.func70 (by kernel_rfl) rfl #[.slice A0_0 l0_0.length c0_0, .int .i64 x19_1] rfl (by (try simp only [List.map_toArray, List.map_cons, List.map_nil]); first | done | rfl | (simp only [List.length_drop, List.length_take]; rfl)) ?_; (with_reducible refine (impl_dropped.calls _ _ l0_0 x19_1 t262 _ ?side1 ?side2 A11.out).mono ?_); (case side1 => repeat (first | exact (Kd.C_below HR0_0.out HB.out) | (with_reducible refine Kd.C_alloc ?_ _) | (with_reducible refine Kd.C_drewN ?_ _) | (with_reducible refine Kd.C_drew ?_))); (case side2 => exact HC0_0.out); rintro e w16 ⟨v263, rfl, ho0, hb⟩; refine ⟨_, rfl, ?_⟩; have n0_ := Aside0.mk (Kd.R_below (by (with_reducible repeat (first | apply Kd.R_alloc | apply Kd.R_drewN | apply Kd.R_drew)); exact HO_6.out) hb); have n1_ := Aside0.mk (Kd.R_lower ho0 (below_size (by repeat (first | (with_reducible first | exact HB.out | apply below_alloc | apply pw_below_drewN | apply below_drew1 | refine below_set ?_ GE256.out) | exact HB.out)))); have n2_ := Aside0.mk (blk_below (g := gb256) (o := .cells #[.slice A0_0 l0_0.length c0_0] 44 (0, 0)) (by (with_reducible repeat (first | refine blk_drewN ?_ _ | refine blk_drew ?_ | refine blk_alloc ?_ _)); exact BK256.out) hb); have n3_ := Aside0.mk (below_step (by repeat (first | (with_reducible first | exact HB.out | apply below_alloc | apply pw_below_drewN | apply below_drew1 | refine below_set ?_ GE256.out) | exact HB.out)) hb); clear HO_6; clear BK256; clear HB; have HO_6 := n0_; have HO264 := n1_; have BK256 := n2_; have HB := n3_; clear n0_ n1_ n2_ n3_; (try clear hb); (try clear hb2); (try clear hk); (try clear hi); (try clear ho0); obtain ⟨Ao17, co17, eo17⟩ := Kd.R_slice HO264.out; subst eo17) | ((with_reducible refine gate_callee (f := 65) rfl ?_); refine goesL_ (some 26) rfl rfl Try.func65 (by kernel_rfl) rfl #[.slice Ao17 t262.length co17] rfl (by (try simp only [List.map_toArray, List.map_cons, List.map_nil]); first | done | rfl | (simp only [List.length_drop, List.length_take]; rfl)) ?_; (with_reducible refine (impl_solve.calls k1 _ _ t262 t265 _ ?side1 ?side2 A12.out).mono ?_); (case side1 => repeat (first | exact (Kd.R_reads' HO264.out).2.2 | (with_reducible refine Kd.C_alloc ?_ _) | (with_reducible refine Kd.C_drewN ?_ _) | (with_reducible refine Kd.C_drew ?_))); (case side2 => exact (Kd.R_reads' HO264.out).2.1); rintro e w18 ⟨v266, rfl, ho0, hb⟩; refine ⟨_, rfl, ?_⟩; have n0_ := Aside0.mk (Kd.R_below (by (with_reducible repeat (first | apply Kd.R_alloc | apply Kd.R_drewN | apply Kd.R_drew)); exact HO_6.out) hb); have n1_ := Aside0.mk (Kd.R_below (by (with_reducible repeat (first | apply Kd.R_alloc | apply Kd.R_drewN | apply Kd.R_drew)); exact HO264.out) hb); have n2_ := Aside0.mk (Kd.S_lower (Kd.S_new' ho0 (Kd.R_lt (by (with_reducible repeat (first | apply Kd.R_alloc | apply Kd.R_drewN | apply Kd.R_drew)); exact HO_6.out))) (below_size (by repeat (first | (with_reducible first | exact HB.out | apply below_alloc | apply pw_below_drewN | apply below_drew1 | refine below_set ?_ GE256.out) | exact HB.out)))); have n3_ := Aside0.mk (blk_below (g := gb256) (o := .cells #[.slice A0_0 l0_0.length c0_0] 44 (0, 0)) (by (with_reducible repeat (first | refine blk_drewN ?_ _ | refine blk_drew ?_ | refine blk_alloc ?_ _)); exact BK256.out) hb); have n4_ := Aside0.mk (below_step (by repeat (first | (with_reducible first | exact HB.out | apply below_alloc | apply pw_below_drewN | apply below_drew1 | refine below_set ?_ GE256.out) | exact HB.out)) hb); clear HO_6; clear HO264; clear BK256; clear HB; have HO_6 := n0_; have HO264 := n1_; have HO267 := n2_; have BK256 := n3_; have HB := n4_; clear n0_ n1_ n2_ n3_ n4_; (try clear hb); (try clear hb2); (try clear hk); (try clear hi); (try clear ho0); obtain ⟨Ao19, co19, eo19⟩ := Kd.S_slice HO267.out; subst eo19) | ((with_reducible refine gate_builtin (b := .append) (xs := #[.tmp 30, .tmp 32]) rfl ?_); at_builtin; refine Kd.R_append (Kd.int .i64) (w0 := w) w.heap.size rfl (.tmp 30) (.tmp 32) 26 3 (.int .i64 0) 8 rfl Try.underlying26 info3 rfl (by decide) (by omega) u6 x6_1 x19_1 [.int .i64 x19_1] (fun _ => True) (fun _ => False) rfl rfl ?aP (fun _ hk => hk.elim) ?aF ?aO ?aB ?aS ?aL ?_; (case aP => exact rfl); (case aB => exact (by repeat (first | (with_reducible first | exact HB.out | apply below_alloc | apply pw_below_drewN | apply below_drew1 | refine below_set ?_ GE256.out) | exact HB.out))); (case aF => exact (fun _ _ => trivial)); (case aO => exact (by (with_reducible repeat (first | apply Kd.R_alloc | apply Kd.R_drewN | apply Kd.R_drew)); exact HO_6.out)); (case aS => exact (below_size (by repeat (first | (with_reducible first | exact HB.out | apply below_alloc | apply pw_below_drewN | apply below_drew1 | refine below_set ?_ GE256.out) | exact HB.out)))); (case aL => have := LMc14.out; omega); intro v269 w20 ho hb hg hat; rw [← Ny268.out] at ho; have n0_ := Aside0.mk (blk_grown (g := gb256) (o := .cells #[.slice A0_0 l0_0.length c0_0] 44 (0, 0)) (by (with_reducible repeat (first | refine blk_drewN ?_ _ | refine blk_drew ?_ | refine blk_alloc ?_ _)); exact BK256.out) hg (Kd.R_ne HO_6.out BK256.out (by decide))); have n1_ := Aside0.mk (Kd.R_over' (by (with_reducible repeat (first | apply Kd.R_alloc | apply Kd.R_drewN | apply Kd.R_drew)); exact HO264.out) (Kd.R_typed (by (with_reducible repeat (first | apply Kd.R_alloc | apply Kd.R_drewN | apply Kd.R_drew)); exact HO_6.out)) (by decide) hg); have n2_ := Aside0.mk (Kd.S_after (ok := (fun _ => True)) (by (with_reducible repeat (first | apply Kd.S_alloc | apply Kd.S_drewN | apply Kd.S_drew)); exact HO267.out) hg hat); have n3_ := Aside0.mk (hb); have n4_ := Aside0.mk (ho); clear BK256; clear HO264; clear HO267; clear HB; clear HO_6; have BK256 := n0_; have HO264 := n1_; have HO267 := n2_; have HB := n3_; have HO270 := n4_; clear n0_ n1_ n2_ n3_ n4_; clear ho hb hg hat))
              go_roundg k1
              case measure => have := HK1.out; omega
              case rel => exact ⟨(y268), (wrap64 (x19_1 + 1)), (by first | rfl | (simp; done) | (simp [*]; done)), H', ⟨by have := HK1.out; omega⟩, ⟨by (with_reducible repeat (first | apply Kd.R_alloc | apply Kd.R_drewN | apply Kd.R_drew)); exact HO270.out⟩, ⟨by (with_reducible repeat (first | refine blk_drewN ?_ _ | refine blk_drew ?_ | refine blk_alloc ?_ _)); exact BK256.out⟩, ⟨by repeat (first | (with_reducible first | exact HB.out | apply below_alloc | apply pw_below_drewN | apply below_drew1 | refine below_set ?_ GE256.out) | exact HB.out)⟩⟩
            · rw [if_neg c14] at H
              exact absurd H (by simp)
          · rw [if_neg c13] at H
            have c13b0 : ((t265.length : Int) == t257) = false := beq_eq_false_iff_ne.mpr c13
            have c13b1 : ((t265.length : Int) != t257) = true := bne_iff_ne.mpr c13
            have H' := Aside0.mk H
            clear H
            have hcz21_0 : wr.cell? ⟨gb256, 0, none⟩ = some (.slice A0_0 l0_0.length c0_0) := (blk_cell BK256.out 0).trans rfl
            have hfz21_0 := blk_frozen BK256.out 0
            go_wp2_with (first | ((with_reducible refine gate_callee (f := 70) rfl ?_); refine goesL_ (some 25) rfl rfl Try.func70 (by kernel_rfl) rfl #[.slice A0_0 l0_0.length c0_0, .int .i64 x19_1] rfl (by (try simp only [List.map_toArray, List.map_cons, List.map_nil]); first | done | rfl | (simp only [List.length_drop, List.length_take]; rfl)) ?_; (with_reducible refine (impl_dropped.calls _ _ l0_0 x19_1 t262 _ ?side1 ?side2 A11.out).mono ?_); (case side1 => repeat (first | exact (Kd.C_below HR0_0.out HB.out) | (with_reducible refine Kd.C_alloc ?_ _) | (with_reducible refine Kd.C_drewN ?_ _) | (with_reducible refine Kd.C_drew ?_))); (case side2 => exact HC0_0.out); rintro e w22 ⟨v263, rfl, ho0, hb⟩; refine ⟨_, rfl, ?_⟩; have n0_ := Aside0.mk (Kd.R_below (by (with_reducible repeat (first | apply Kd.R_alloc | apply Kd.R_drewN | apply Kd.R_drew)); exact HO_6.out) hb); have n1_ := Aside0.mk (Kd.R_lower ho0 (below_size (by repeat (first | (with_reducible first | exact HB.out | apply below_alloc | apply pw_below_drewN | apply below_drew1 | refine below_set ?_ GE256.out) | exact HB.out)))); have n2_ := Aside0.mk (blk_below (g := gb256) (o := .cells #[.slice A0_0 l0_0.length c0_0] 44 (0, 0)) (by (with_reducible repeat (first | refine blk_drewN ?_ _ | refine blk_drew ?_ | refine blk_alloc ?_ _)); exact BK256.out) hb); have n3_ := Aside0.mk (below_step (by repeat (first | (with_reducible first | exact HB.out | apply below_alloc | apply pw_below_drewN | apply below_drew1 | refine below_set ?_ GE256.out) | exact HB.out)) hb); clear HO_6; clear BK256; clear HB; have HO_6 := n0_; have HO264 := n1_; have BK256 := n2_; have HB := n3_; clear n0_ n1_ n2_ n3_; (try clear hb); (try clear hb2); (try clear hk); (try clear hi); (try clear ho0); obtain ⟨Ao23, co23, eo23⟩ := Kd.R_slice HO264.out; subst eo23) | ((with_reducible refine gate_callee (f := 65) rfl ?_); refine goesL_ (some 26) rfl rfl Try.func65 (by kernel_rfl) rfl #[.slice Ao23 t262.length co23] rfl (by (try simp only [List.map_toArray, List.map_cons, List.map_nil]); first | done | rfl | (simp only [List.length_drop, List.length_take]; rfl)) ?_; (with_reducible refine (impl_solve.calls k1 _ _ t262 t265 _ ?side1 ?side2 A12.out).mono ?_); (case side1 => repeat (first | exact (Kd.R_reads' HO264.out).2.2 | (with_reducible refine Kd.C_alloc ?_ _) | (with_reducible refine Kd.C_drewN ?_ _) | (with_reducible refine Kd.C_drew ?_))); (case side2 => exact (Kd.R_reads' HO264.out).2.1); rintro e w24 ⟨v266, rfl, ho0, hb⟩; refine ⟨_, rfl, ?_⟩; have n0_ := Aside0.mk (Kd.R_below (by (with_reducible repeat (first | apply Kd.R_alloc | apply Kd.R_drewN | apply Kd.R_drew)); exact HO_6.out) hb); have n1_ := Aside0.mk (Kd.R_below (by (with_reducible repeat (first | apply Kd.R_alloc | apply Kd.R_drewN | apply Kd.R_drew)); exact HO264.out) hb); have n2_ := Aside0.mk (Kd.S_lower (Kd.S_new' ho0 (Kd.R_lt (by (with_reducible repeat (first | apply Kd.R_alloc | apply Kd.R_drewN | apply Kd.R_drew)); exact HO_6.out))) (below_size (by repeat (first | (with_reducible first | exact HB.out | apply below_alloc | apply pw_below_drewN | apply below_drew1 | refine below_set ?_ GE256.out) | exact HB.out)))); have n3_ := Aside0.mk (blk_below (g := gb256) (o := .cells #[.slice A0_0 l0_0.length c0_0] 44 (0, 0)) (by (with_reducible repeat (first | refine blk_drewN ?_ _ | refine blk_drew ?_ | refine blk_alloc ?_ _)); exact BK256.out) hb); have n4_ := Aside0.mk (below_step (by repeat (first | (with_reducible first | exact HB.out | apply below_alloc | apply pw_below_drewN | apply below_drew1 | refine below_set ?_ GE256.out) | exact HB.out)) hb); clear HO_6; clear HO264; clear BK256; clear HB; have HO_6 := n0_; have HO264 := n1_; have HO267 := n2_; have BK256 := n3_; have HB := n4_; clear n0_ n1_ n2_ n3_ n4_; (try clear hb); (try clear hb2); (try clear hk); (try clear hi); (try clear ho0); obtain ⟨Ao25, co25, eo25⟩ := Kd.S_slice HO267.out; subst eo25))
            go_roundg k1
            case measure => have := HK1.out; omega
            case rel => exact ⟨(x6_1), (wrap64 (x19_1 + 1)), (by first | rfl | (simp; done) | (simp [*]; done)), H', ⟨by have := HK1.out; omega⟩, ⟨by (with_reducible repeat (first | apply Kd.R_alloc | apply Kd.R_drewN | apply Kd.R_drew)); exact HO_6.out⟩, ⟨by (with_reducible repeat (first | refine blk_drewN ?_ _ | refine blk_drew ?_ | refine blk_alloc ?_ _)); exact BK256.out⟩, ⟨by repeat (first | (with_reducible first | exact HB.out | apply below_alloc | apply pw_below_drewN | apply below_drew1 | refine below_set ?_ GE256.out) | exact HB.out)⟩⟩
        · rw [if_neg c10] at H
          have c10b0 : decide (x19_1 < (l0_0.length : Int)) = false := decide_eq_false c10
          clear c10
          simp only [Option.some.injEq, Prod.mk.injEq] at H
          obtain ⟨rfl, rfl⟩ := H
          go_wp2
          go_ret2
          exact ⟨_, by first | rfl | (simp [errW_none, errW_some] <;> rfl) | (simp [*, errW_none, errW_some] <;> rfl), by (with_reducible repeat (first | apply Kd.R_alloc | apply Kd.R_drewN | apply Kd.R_drew)); exact HO_6.out, by repeat (first | (with_reducible first | exact HB.out | apply below_alloc | apply pw_below_drewN | apply below_drew1 | refine below_set ?_ GE256.out) | exact HB.out)⟩
  · replace c3 := Bool.eq_false_iff.mpr c3
    subst c3
    have H1 : (some (([] : List Int), false)) = some (r1, r2) := by rw [if_neg (show ¬ (false = true) by decide)] at H; exact H
    clear H
    have H := H1
    clear H1
    simp only [Option.some.injEq, Prod.mk.injEq] at H
    obtain ⟨rfl, rfl⟩ := H
    go_enter Try.func42, Try.ntmps42
    go_wp2_with (first | ((with_reducible refine gate_dst (N := 1) rfl ?_); refine box_event ?hg (N := 1) ?hd (cs := #[.slice A0_0 l0_0.length c0_0]) (t := 44) ?hr ?_; (case hd => rfl); (case hg => rfl); (case hr => first | (go_simp; done) | (go_simp; rfl)); intro gb256 hg w26 hbox hb; have n0_ := Aside0.mk (below_step (by repeat (first | (with_reducible first | exact HB.out | apply below_alloc | apply pw_below_drewN | apply below_drew1) | exact HB.out)) hb); have n1_ := Aside0.mk (hbox); have n2_ := Aside0.mk ((by rw [hg]; exact (below_size (by repeat (first | (with_reducible first | exact HB.out | apply below_alloc | apply pw_below_drewN | apply below_drew1) | exact HB.out))) : w.heap.size ≤ gb256)); have n3_ := Aside0.mk ((by rw [hg]; exact (below_size (by repeat (first | (with_reducible first | exact HB.out | apply below_alloc | apply pw_below_drewN | apply below_drew1) | exact HB.out))) : w.heap.size ≤ gb256)); clear HB; have HB := n0_; have BK256 := n1_; have GW256 := n2_; have GE256 := n3_; clear n0_ n1_ n2_ n3_; clear hb hbox hg; have hcz27_0 : w26.cell? ⟨gb256, 0, none⟩ = some (.slice A0_0 l0_0.length c0_0) := (blk_cell BK256.out 0).trans rfl; have hfz27_0 := blk_frozen BK256.out 0) | ((with_reducible refine gate_callee (f := 25) rfl ?_); refine goesL_ (some 10) rfl rfl Try.func25 (by kernel_rfl) rfl #[.agg #[.slice A0_0 l0_0.length c0_0]] rfl (by (try simp only [List.map_toArray, List.map_cons, List.map_nil]); first | done | rfl | (simp only [List.length_drop, List.length_take]; rfl)) ?_; (with_reducible refine (impl_CountSolutions.calls k _ _ l0_0 t257 false _ ?side1 ?side2 A2.out).mono ?_); (case side1 => repeat (first | exact (Kd.C_below HR0_0.out HB.out) | (with_reducible refine Kd.C_alloc ?_ _) | (with_reducible refine Kd.C_drewN ?_ _) | (with_reducible refine Kd.C_drew ?_))); (case side2 => exact HC0_0.out); rintro e w28 ⟨rfl, hb⟩; refine ⟨_, rfl, ?_⟩; have n0_ := Aside0.mk (blk_below (g := gb256) (o := .cells #[.slice A0_0 l0_0.length c0_0] 44 (0, 0)) (by (with_reducible repeat (first | refine blk_drewN ?_ _ | refine blk_drew ?_ | refine blk_alloc ?_ _)); exact BK256.out) hb); have n1_ := Aside0.mk (below_step (by repeat (first | (with_reducible first | exact HB.out | apply below_alloc | apply pw_below_drewN | apply below_drew1 | refine below_set ?_ GE256.out) | exact HB.out)) hb); clear BK256; clear HB; have BK256 := n0_; have HB := n1_; clear n0_ n1_; (try clear hb); (try clear hb2); (try clear hk); (try clear hi)))
    go_ret2
    exact ⟨_, by first | rfl | (simp [errW_none, errW_some] <;> rfl) | (simp [*, errW_none, errW_some] <;> rfl), by first | exact Kd.R_nil _ _ _ _ _ | exact Kd.N_nil _ _ _ _ _ | exact Kd.V_nil _ _ _ _ _ | exact Kd.Q_nil _ _ _ _ _ | exact Kd.S_nil _ _ _ _ _, by repeat (first | (with_reducible first | exact HB.out | apply below_alloc | apply pw_below_drewN | apply below_drew1 | refine below_set ?_ GE256.out) | exact HB.out)⟩

end Go.Proofs.Ytmpmiomjfhcmdaa.PFnExactNeedlessClues
