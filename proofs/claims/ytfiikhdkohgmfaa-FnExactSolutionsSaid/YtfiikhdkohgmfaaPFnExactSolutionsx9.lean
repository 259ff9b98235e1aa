-- MADE FOR THIS CLAIM by wip/xp/xprint.py (with the kit's print; some functions' contracts proved by hand)
import Derived.Test.YtfiikhdkohgmfaaPFnExactSolutionsx0
import Derived.Test.YtfiikhdkohgmfaaPFnExactSolutionsx1
import Derived.Test.YtfiikhdkohgmfaaPFnExactSolutionsx2
import Derived.Test.YtfiikhdkohgmfaaPFnExactSolutionsx5
import Derived.Test.YtfiikhdkohgmfaaPFnExactSolutionsx8
namespace Go.Proofs.Ytfiikhdkohgmfaa.PFnExactSolutions
open Go.RowKit Go.Proofs.YtfiikhdkohgmfaaW.PrintWords Go.Proofs.YtfiikhdkohgmfaaW.PrintLast Go.Proofs.YtfiikhdkohgmfaaW.PrintMore
attribute [local go_sem] max2_int min2_int max_two min_two max_three min_three max_four min_four   -- for this text's walks alone
set_option linter.unusedVariables false
set_option linter.unusedSimpArgs false

/-! ### laws_markIntS: function 22 -/
def laws_markIntS.l0 : Nat → List Int → Int → Int → Option (Int × List Int)
  | 0, _, _, _ => none
  | k + 1, x0, x1, x5 => if x5 < (x0.length : Int) then (if 0 ≤ x5 then (laws_markIntS.l0 k (x0.set (x5 : Int).toNat x1) (wrap64 (x1 + 1)) (wrap64 (x5 + 1))) else (none)) else (some (x1, x0))
def laws_markIntS.f (k : Nat) (l0 : List Int) (a1 : Int) : Option (Int × List Int) := laws_markIntS.l0 k l0 a1 0
theorem laws_markIntS.mono_l : ∀ k, (∀ y0 y1 y2, LeO (laws_markIntS.l0 k y0 y1 y2) (laws_markIntS.l0 (k + 1) y0 y1 y2))
  | 0 => fun _ _ _ r h => by simp [laws_markIntS.l0] at h
  | k + 1 => by
    have ih0 := laws_markIntS.mono_l k
    · intro y0 y1 y2
      unfold laws_markIntS.l0
      repeat' first
      | (with_reducible exact ih0 _ _ _)
      | (with_reducible exact LeO.refl _)
      | (with_reducible exact LeO.none _)
      | (with_reducible refine LeO.ite ?_ ?_)
      | (with_reducible refine LeO.bind ?_ (fun _ => ?_))
      | exact ih0 _ _ _
      | exact LeO.none _
      | refine LeO.ite ?_ ?_
      | refine LeO.bind ?_ (fun _ => ?_)
theorem laws_markIntS.mono : ∀ a0 a1 k, LeO (laws_markIntS.f k a0 a1) (laws_markIntS.f (k + 1) a0 a1) := by
  intro a0 a1 k
  have ih0 := laws_markIntS.mono_l k
  unfold laws_markIntS.f
  repeat' first
      | (with_reducible exact ih0 _ _ _)
      | (with_reducible exact LeO.refl _)
      | (with_reducible exact LeO.none _)
      | (with_reducible refine LeO.ite ?_ ?_)
      | (with_reducible refine LeO.bind ?_ (fun _ => ?_))
      | exact ih0 _ _ _
      | exact LeO.none _
      | refine LeO.ite ?_ ?_
      | refine LeO.bind ?_ (fun _ => ?_)
set_option maxHeartbeats 8000000 in
set_option maxRecDepth 100000 in
theorem laws_markIntS.calls (k : Nat) (P0_ : Nat → Prop) (u9000_ : Value) (l0 : List Int) (a1 : Int) (r1 : Int) (r2 : List Int) (w0 w : World) (hB : Below w0.heap.size w0 w) (ho0 : Kd.R (Kd.int .i64) 3 w w0.heap.size P0_ u9000_ l0) (h : laws_markIntS.f k l0 a1 = some (r1, r2)) :
    Calls Try.prog 22 #[u9000_, .int .i64 a1] w fun e w' => e = .returned (.int .i64 r1) ∧ Kd.R (Kd.int .i64) 3 w' w0.heap.size (fun k_ => (P0_ k_ ∨ w.heap.size ≤ k_)) u9000_ r2 ∧ Below w0.heap.size w0 w' ∧ Kept w w' (fun k_ => P0_ k_) := by
  have HO0 := Aside0.mk (show Kd.R (Kd.int .i64) 3 w w0.heap.size (fun k_ => (P0_ k_ ∨ w.heap.size ≤ k_)) u9000_ l0 from Kd.R_mono ho0 (fun k_ hk => (.inl hk)))
  have HK := Aside0.mk (Kept.refl w (fun k_ => P0_ k_))
  have HW0 := Aside0.mk hB.size
  have HB := Aside0.mk hB
  clear hB
  have H : (laws_markIntS.l0 k l0 a1 0) = some (r1, r2) := h
  clear h
  have H' := Aside0.mk H
  clear H
  go_enter Try.func22, Try.ntmps22
  go_wp2
  go_loopg [1, 5] k (fun kq v1 v5 w' => ∃ (x0_1 : List Int) (x1_1 : Int) (x5_1 : Int), v1 = .int .i64 x1_1 ∧ v5 = .int .i64 x5_1 ∧ Aside0 (laws_markIntS.l0 kq x0_1 x1_1 x5_1 = some (r1, r2)) ∧ Aside0 (kq ≤ k) ∧ Aside0 (Kd.R (Kd.int .i64) 3 w' w0.heap.size (fun k_ => (P0_ k_ ∨ w.heap.size ≤ k_)) u9000_ x0_1) ∧ Aside0 (Kept w w' (fun k_ => P0_ k_)) ∧ Aside0 (Below w0.heap.size w0 w'))
  case atStart => exact ⟨(l0), (a1), (0), (by first | rfl | (simp; done) | (simp [*]; done)), (by first | rfl | (simp; done) | (simp [*]; done)), H', ⟨Nat.le_refl _⟩, ⟨by (with_reducible repeat (first | apply Kd.R_alloc | apply Kd.R_drewN | apply Kd.R_drew)); exact HO0.out⟩, ⟨by repeat (first | (with_reducible first | exact HK.out | apply Kept.alloc | apply Kept.drewN | apply Kept.drew) | exact HK.out)⟩, ⟨by repeat (first | (with_reducible first | exact HB.out | apply below_alloc | apply pw_below_drewN | apply below_drew1) | exact HB.out)⟩⟩
  case round =>
    clear H'
    try clear c2
    try clear p2
    obtain ⟨x0_1, x1_1, x5_1, rfl, rfl, HA, HK1, HO_0, HK, HB⟩ := hrel
    cases gk with
    | zero => exact absurd HA.out (by simp [laws_markIntS.l0])
    | succ k1 =>
      have H := HA.out
      clear HA
      simp only [laws_markIntS.l0] at H
      by_cases c3 : x5_1 < (x0_1.length : Int)
      · rw [if_pos c3] at H
        have c3b0 : decide (x5_1 < (x0_1.length : Int)) = true := decide_eq_true c3
        clear c3
        by_cases c4 : 0 ≤ x5_1
        · rw [if_pos c4] at H
          have c4b0 : decide (0 ≤ x5_1) = true := decide_eq_true c4
          clear c4
          obtain ⟨y226, hy226⟩ : ∃ y_ : List Int, y_ = (x0_1.set (x5_1 : Int).toNat x1_1) := ⟨_, rfl⟩
          replace H : (laws_markIntS.l0 k1 y226 (wrap64 (x1_1 + 1)) (wrap64 (x5_1 + 1))) = some (r1, r2) := by first | (rw [hy226]; with_reducible exact H) | (have H2_ := (Option.bind_some _ _).symm.trans H; rw [hy226]; with_reducible exact H2_) | (have H2_ := (Option.bind_some _ _).symm.trans H; with_reducible exact H2_) | with_reducible exact H | (rw [hy226]; exact H) | exact H
          have Ny226 := Aside0.mk hy226
          clear hy226
          have H' := Aside0.mk H
          clear H
          obtain ⟨Ao6, co6, eo6⟩ := Kd.R_slice HO_0.out
          subst eo6
          have p5 : 0 ≤ (x5_1 : Int) := of_decide_eq_true (by first | (with_reducible assumption) | assumption)
          have q5 : (x5_1 : Int) < ((x0_1.length : Int) : Int) := of_decide_eq_true (by first | (with_reducible assumption) | assumption)
          obtain ⟨go5, co5, eo5, gb5, gl5, cl5, HG5⟩ := Kd.R_form HO_0.out (by omega)
          (first | cases eo5 | (injection eo5 with ea_ en_ ec_; (first | subst ea_ | (injection ea_ with ea_; subst ea_)); subst ec_; clear en_))
          have GB5 := Aside0.mk gb5
          have GG5 := Aside0.mk HG5
          clear gb5 gl5 HG5
          have HMgo5 := Aside0.mk (show (P0_ go5 ∨ w.heap.size ≤ go5) from (HO_0.out.1 _ rfl))
          obtain ⟨hx5_0, hf5_0⟩ := Kd.R_celln 0 HO_0.out (x5_1 : Int) p5 q5
          replace p5 := eq_true p5
          replace q5 := eq_true q5
          have HP7 := Kd.R_putg HO_0.out (x5_1 : Int) x1_1
          go_wp2_with (first | ((with_reducible refine gate_store (t := 3) (p := 15) rfl ?_); refine store_event (t := 3) (p := 15) (v := ?vo_w8) (w1 := (wr.setCell ⟨go5, (x5_1 : Int).toNat, none⟩ (.int .i64 x1_1))) ?hg ?ho ?hn ?hr ?_; (case ho => rfl); (case hg => rfl); (case hn => rfl); (case hr => first | (go_simp; done) | (go_simp; rfl)); intro w8 hw; have hg : wr.grownBy w8 (some go5) := (by rw [hw]; exact HP7.2); have hp_ : Kd.R (Kd.int .i64) 3 w8 w0.heap.size (fun k_ => (P0_ k_ ∨ w.heap.size ≤ k_)) (.slice (some ⟨go5, 0, none⟩) x0_1.length co6) y226 := (by rw [hw, Ny226.out]; exact HP7.1); clear HP7; have n0_ := Aside0.mk (hp_); have n1_ := Aside0.mk ((by rw [hw]; exact below_set (HB.out) GB5.out : Below w0.heap.size w0 w8)); have n2_ := Aside0.mk (Kept.of_grown (S := (fun k_ => P0_ k_)) hg (by repeat (first | (with_reducible first | exact HK.out | apply Kept.alloc | apply Kept.drewN | apply Kept.drew) | exact HK.out)) (fun k_ e_ => (HO_0.out.1 k_ e_))); clear HO_0; clear HB; clear HK; have HO_0 := n0_; have HB := n1_; have HK := n2_; clear n0_ n1_ n2_; clear hg hw hp_))
          go_roundg k1
          case measure => have := HK1.out; omega
          case rel => exact ⟨(y226), (wrap64 (x1_1 + 1)), (wrap64 (x5_1 + 1)), (by first | rfl | (simp; done) | (simp [*]; done)), (by first | rfl | (simp; done) | (simp [*]; done)), H', ⟨by have := HK1.out; omega⟩, ⟨by (with_reducible repeat (first | apply Kd.R_alloc | apply Kd.R_drewN | apply Kd.R_drew)); exact HO_0.out⟩, ⟨by repeat (first | (with_reducible first | exact HK.out | apply Kept.alloc | apply Kept.drewN | apply Kept.drew) | exact HK.out)⟩, ⟨by repeat (first | (with_reducible first | exact HB.out | apply below_alloc | apply pw_below_drewN | apply below_drew1) | exact HB.out)⟩⟩
        · rw [if_neg c4] at H
          exact absurd H (by simp)
      · rw [if_neg c3] at H
        have c3b0 : decide (x5_1 < (x0_1.length : Int)) = false := decide_eq_false c3
        clear c3
        simp only [Option.some.injEq, Prod.mk.injEq] at H
        obtain ⟨rfl, rfl⟩ := H
        obtain ⟨Ao9, co9, eo9⟩ := Kd.R_slice HO_0.out
        subst eo9
        go_wp2
        go_ret
        exact ⟨by first | rfl | (simp [errW_none, errW_some] <;> rfl) | (simp [*, errW_none, errW_some] <;> rfl), by (with_reducible repeat (first | apply Kd.R_alloc | apply Kd.R_drewN | apply Kd.R_drew)); exact HO_0.out, by repeat (first | (with_reducible first | exact HB.out | apply below_alloc | apply pw_below_drewN | apply below_drew1) | exact HB.out), by repeat (first | (with_reducible first | exact HK.out | apply Kept.alloc | apply Kept.drewN | apply Kept.drew) | exact HK.out)⟩

/-! ### word lawiv -/
/-- The blocks from b on, below t. -/
def IV (b t : Nat) : Nat → Prop := fun k => b ≤ k ∧ k < t
theorem R_iv {α : Type} {d : Kd α} {e B b c : Nat} {W : World} {v : Value} {xs : List α} (h : Kd.R d e W c (fun _ => True) v xs) (h1 : b ≤ c) (h2 : B ≤ b) : Kd.R d e W B (IV b W.heap.size) v xs :=
  Kd.R_lower (Kd.R_mono (Kd.R_bound h) (fun k hk => ⟨Nat.le_trans h1 hk.2.1, hk.2.2.1⟩)) (Nat.le_trans h2 h1)
theorem S_iv {α : Type} {d : Kd α} {e B b c : Nat} {W : World} {v : Value} {xs : List α} (h : Kd.S d e W c (fun _ => True) v xs) (h1 : b ≤ c) (h2 : B ≤ b) : Kd.S d e W B (IV b W.heap.size) v xs :=
  Kd.S_lower (Kd.S_mono (Kd.S_bound h) (fun k hk => ⟨Nat.le_trans h1 hk.2.1, hk.2.2.1⟩)) (Nat.le_trans h2 h1)
theorem R_ivm {α : Type} {d : Kd α} {e B b t c : Nat} {W : World} {v : Value} {xs : List α} (h : Kd.R d e W B (fun k => IV b t k ∨ c ≤ k) v xs) (h1 : b ≤ c) : Kd.R d e W B (IV b W.heap.size) v xs :=
  Kd.R_mono (Kd.R_bound h) (fun k hk => ⟨by rcases hk.1 with h | h; exact h.1; omega, hk.2.2.1⟩)
theorem S_ivm {α : Type} {d : Kd α} {e B b t c : Nat} {W : World} {v : Value} {xs : List α} (h : Kd.S d e W B (fun k => IV b t k ∨ c ≤ k) v xs) (h1 : b ≤ c) : Kd.S d e W B (IV b W.heap.size) v xs :=
  Kd.S_mono (Kd.S_bound h) (fun k hk => ⟨by rcases hk.1 with h | h; exact h.1; omega, hk.2.2.1⟩)
theorem R_ivk {α : Type} {d : Kd α} {e B b t b' t' : Nat} {W W2 : World} {v : Value} {xs : List α} (h : Kd.R d e W B (IV b t) v xs) (hk : Kept W W2 (fun k => IV b' t' k)) (h1 : t ≤ b' ∨ t' ≤ b) : Kd.R d e W2 B (IV b t) v xs :=
  Kd.R_kept h hk (fun k hk h2 => by unfold IV at hk h2; omega)
theorem S_ivk {α : Type} {d : Kd α} {e B b t b' t' : Nat} {W W2 : World} {v : Value} {xs : List α} (h : Kd.S d e W B (IV b t) v xs) (hk : Kept W W2 (fun k => IV b' t' k)) (h1 : t ≤ b' ∨ t' ≤ b) : Kd.S d e W2 B (IV b t) v xs :=
  Kd.S_kept h hk (fun k hk h2 => by unfold IV at hk h2; omega)
theorem X_ivk {b' t' g : Nat} {o : Obj} {W W2 : World} (h : W.heap[g]? = some o) (hk : Kept W W2 (fun k => IV b' t' k)) (h1 : g < b' ∨ t' ≤ g) : W2.heap[g]? = some o := blk_kept h hk (fun h2 => by unfold IV at h2; omega)


/-! ### laws_markIntSS: function 27 -/
-- GIVEN loop.example/g01305/laws.markIntSS raw=1
-- NEEDS loop.example/g01305/laws.markIntS
-- USES lawiv
def laws_markIntSS.l0 : Nat → List (List Int) → Int → Int → Option (Int × List (List Int))
  | 0, _, _, _ => none
  | k + 1, x0, a, i => if i < (x0.length : Int) then (if 0 ≤ i then (laws_markIntS.f k (x0.getD i.toNat []) a).bind fun r => laws_markIntSS.l0 k (x0.set i.toNat r.2) r.1 (wrap64 (i + 1)) else none) else some (a, x0)
def laws_markIntSS.f (k : Nat) (x0 : List (List Int)) (a : Int) : Option (Int × List (List Int)) := laws_markIntSS.l0 k x0 a 0
set_option maxHeartbeats 4000000 in
set_option maxRecDepth 100000 in
theorem laws_markIntSS.calls (k : Nat) (P0_ : Nat → Prop) (u : Value) (xs : List (List Int)) (a1 r1 : Int) (r2 : List (List Int)) (w0 w : World) (hB : Below w0.heap.size w0 w) (ho0 : Kd.S (Kd.slice 3 (Kd.int .i64)) 26 w w0.heap.size P0_ u xs) (h : laws_markIntSS.f k xs a1 = some (r1, r2)) :
    Calls Try.prog 27 #[u, .int .i64 a1] w fun e w' => e = .returned (.int .i64 r1) ∧ Kd.S (Kd.slice 3 (Kd.int .i64)) 26 w' w0.heap.size (fun k_ => (P0_ k_ ∨ w.heap.size ≤ k_)) u r2 ∧ Below w0.heap.size w0 w' ∧ Kept w w' (fun k_ => P0_ k_) := by
  obtain ⟨A0, c0, rfl⟩ := Kd.S_slice ho0
  have HF := Aside0.mk (show laws_markIntSS.l0 k xs a1 0 = some (r1, r2) from h)
  have HO := Aside0.mk ho0
  have HB := Aside0.mk hB
  have hbig : xs.length ≤ 9223372036854775807 := (Kd.S_reads' ho0).2.2.2.1
  clear h ho0 hB
  generalize hn : xs.length = n at *
  have HN := Aside0.mk hn
  clear hn
  go_enter Try.func27, Try.ntmps27
  go_wp2
  go_loopg [1, 5] k (fun gg v1 v5 wr => ∃ (a i : Int) (ys : List (List Int)) (kk : Nat), v1 = .int .i64 a ∧ v5 = .int .i64 i ∧ Aside0 (laws_markIntSS.l0 kk ys a i = some (r1, r2) ∧ kk ≤ gg ∧ 0 ≤ i ∧ ys.length = n) ∧ Aside0 (Kd.S (Kd.slice 3 (Kd.int .i64)) 26 wr w0.heap.size P0_ (.slice A0 n c0) ys) ∧ Aside0 (Below w0.heap.size w0 wr) ∧ Aside0 (Kept w wr (fun k_ => P0_ k_)))
  case atStart => exact ⟨a1, 0, xs, k, rfl, rfl, ⟨HF.out, Nat.le_refl _, by omega, HN.out⟩, HO, HB, ⟨Kept.refl w _⟩⟩
  case round =>
    obtain ⟨a, i, ys, kk, rfl, rfl, HQ, HS, HBr, HK⟩ := hrel
    have ⟨hf, hkg, hi0, hyn⟩ := HQ.out
    cases kk with
    | zero => exact absurd hf (by simp [laws_markIntSS.l0])
    | succ kk =>
      rw [laws_markIntSS.l0] at hf
      by_cases hlt : i < (n : Int)
      · rw [if_pos (by omega), if_pos hi0] at hf
        obtain ⟨⟨q1, q2⟩, hm, hf⟩ := Option.bind_eq_some_iff.1 hf
        obtain ⟨g, cap, hu, hbg, hgl, cells, hgc⟩ := Kd.S_form HS.out (by omega)
        cases hu
        obtain ⟨oki, c, hcl, hM, hcc, hoki, hH⟩ := Kd.S_lend HS.out [] i hi0 (by omega)
        obtain ⟨v, rfl, hR⟩ := hM
        have hx := hcc 0 v rfl
        obtain ⟨A', c', rfl⟩ := Kd.R_slice hR
        rw [Nat.add_zero, show i.toNat * (Kd.slice 3 (Kd.int .i64)).sz = i.toNat from Nat.mul_one _] at hx
        have HR := Aside0.mk hR
        have HH := Aside0.mk hH
        have HM := Aside0.mk hm
        have HFF := Aside0.mk hf
        have HOK := Aside0.mk hoki
        have HYN := Aside0.mk hyn
        have HKG := Aside0.mk hkg
        have hlt0 := decide_eq_true hlt
        have hi0d := decide_eq_true hi0
        have hlt1 := eq_true hlt
        have hi01 := eq_true hi0
        clear hR hH hm hf hoki hcc hcl hgc hgl hbg HQ hyn hkg
        generalize hrow : ys.getD i.toNat [] = row at *
        go_wp2_with (go_at_call 22; refine (laws_markIntS.calls kk oki (.slice A' row.length c') row a q1 q2 w0 _ (by repeat (first | (with_reducible exact HBr.out) | (with_reducible refine pw_below_drewN ?_ _) | (with_reducible refine below_drew ?_))) (by repeat (first | (with_reducible exact HR.out) | (with_reducible refine Kd.R_drewN ?_ _) | (with_reducible refine Kd.R_drew ?_))) HM.out).mono ?_; rintro e w2 ⟨rfl, hR2, hB2, hK2⟩; have HH2 := Aside0.mk (Kd.H_kept (by repeat (first | (with_reducible exact HH.out) | (with_reducible refine Kd.H_drewN ?_ _) | (with_reducible refine Kd.H_drew ?_))) hK2 (fun k_ _ h2 h3 => h2 h3)); have HK2 : Aside0 (Kept wr w2 (fun k_ => oki k_)) := ⟨((Kept.refl wr _).below (by repeat (first | (with_reducible exact Below.refl _ _) | (with_reducible refine pw_below_drewN ?_ _) | (with_reducible refine below_drew ?_)))).then_ hK2 (fun k_ hk => .inl hk)⟩; have HB2 := Aside0.mk hB2; have HR2 := Aside0.mk hR2; clear hB2 hR2 hK2)
        go_roundg (gk - 1)
        case measure => have := HKG.out; omega
        case rel =>
          have hkg := HKG.out
          have hyl : (ys.length : Int) ≤ 9223372036854775807 := by omega
          have hw : wrap64 (i + 1) = i + 1 := by unfold wrap64; omega
          have hff := HFF.out
          rw [hw] at hff
          refine ⟨q1, i + 1, ys.set i.toNat q2, kk, rfl, (by first | rfl | rw [hw]), ⟨hff, by omega, by omega, by rw [List.length_set]⟩, ⟨?_⟩, HB2, ⟨?_⟩⟩
          · refine Kd.H_back HH2.out (Kd.M_row (Kd.R_tight rfl HR2.out)) (fun k_ hk => ?_)
            exact HR.out.1 k_ (by simpa using hk.symm)
          · exact HK.out.then_ HK2.out (fun k_ hk => .inl (HOK.out k_ hk).1)
      · rw [if_neg (by omega)] at hf
        obtain ⟨rfl, rfl⟩ := Prod.mk.inj (Option.some.inj hf)
        have hlt0 := decide_eq_false hlt
        clear hf HQ hyn hkg
        go_wp2
        go_ret
        exact ⟨rfl, Kd.S_mono HS.out (fun k_ hk => .inl hk), HBr.out, HK.out⟩


/-! ### laws_heldIntS: function 23 -/
def laws_heldIntS.l0 : Nat → List Int → Int → Int → Option (Int)
  | 0, _, _, _ => none
  | k + 1, x0, x1, x5 => if x5 < (x0.length : Int) then (if 0 ≤ x5 then (if (rd x0 x5) = x1 then (laws_heldIntS.l0 k x0 (wrap64 (x1 + 1)) (wrap64 (x5 + 1))) else (some (-1))) else (none)) else (some x1)
def laws_heldIntS.f (k : Nat) (l0 : List Int) (a1 : Int) : Option (Int) := laws_heldIntS.l0 k l0 a1 0
theorem laws_heldIntS.mono_l : ∀ k, (∀ y0 y1 y2, LeO (laws_heldIntS.l0 k y0 y1 y2) (laws_heldIntS.l0 (k + 1) y0 y1 y2))
  | 0 => fun _ _ _ r h => by simp [laws_heldIntS.l0] at h
  | k + 1 => by
    have ih0 := laws_heldIntS.mono_l k
    · intro y0 y1 y2
      unfold laws_heldIntS.l0
      repeat' first
      | (with_reducible exact ih0 _ _ _)
      | (with_reducible exact LeO.refl _)
      | (with_reducible exact LeO.none _)
      | (with_reducible refine LeO.ite ?_ ?_)
      | (with_reducible refine LeO.bind ?_ (fun _ => ?_))
      | exact ih0 _ _ _
      | exact LeO.none _
      | refine LeO.ite ?_ ?_
      | refine LeO.bind ?_ (fun _ => ?_)
theorem laws_heldIntS.mono : ∀ a0 a1 k, LeO (laws_heldIntS.f k a0 a1) (laws_heldIntS.f (k + 1) a0 a1) := by
  intro a0 a1 k
  have ih0 := laws_heldIntS.mono_l k
  unfold laws_heldIntS.f
  repeat' first
      | (with_reducible exact ih0 _ _ _)
      | (with_reducible exact LeO.refl _)
      | (with_reducible exact LeO.none _)
      | (with_reducible refine LeO.ite ?_ ?_)
      | (with_reducible refine LeO.bind ?_ (fun _ => ?_))
      | exact ih0 _ _ _
      | exact LeO.none _
      | refine LeO.ite ?_ ?_
      | refine LeO.bind ?_ (fun _ => ?_)
set_option maxHeartbeats 8000000 in
set_option maxRecDepth 100000 in
theorem laws_heldIntS.calls (k : Nat) (A0 : Option Addr) (c0 : Nat) (l0 : List Int) (a1 : Int) (r : Int) (w : World) (hr0 : Kd.C (Kd.int .i64) w A0 l0.length l0) (hc0 : l0.length ≤ c0) (h : laws_heldIntS.f k l0 a1 = some r) :
    Calls Try.prog 23 #[.slice A0 l0.length c0, .int .i64 a1] w fun e w' => e = .returned (.int .i64 r) ∧ Drawn0 w w' := by
  have HR0 := Aside0.mk hr0
  have HC0 := Aside0.mk hc0
  clear hr0 hc0
  have H : (laws_heldIntS.l0 k l0 a1 0) = some r := h
  clear h
  have H' := Aside0.mk H
  clear H
  go_enter Try.func23, Try.ntmps23
  go_wp2
  go_loopg [1, 5] k (fun kq v1 v5 w' => ∃ (x1_1 : Int) (x5_1 : Int), v1 = .int .i64 x1_1 ∧ v5 = .int .i64 x5_1 ∧ Aside0 (laws_heldIntS.l0 kq l0 x1_1 x5_1 = some r) ∧ Aside0 (kq ≤ k) ∧ Drawn0 w w')
  case atStart => exact ⟨(a1), (0), (by first | rfl | (simp; done) | (simp [*]; done)), (by first | rfl | (simp; done) | (simp [*]; done)), H', ⟨Nat.le_refl _⟩, by repeat (first | exact Drawn0.refl _ | apply Drawn0.step)⟩
  case round =>
    clear H'
    try clear c2
    try clear p2
    obtain ⟨x1_1, x5_1, rfl, rfl, HA, HK1, ⟨m1, rfl⟩⟩ := hrel
    cases gk with
    | zero => exact absurd HA.out (by simp [laws_heldIntS.l0])
    | succ k1 =>
      have H := HA.out
      clear HA
      simp only [laws_heldIntS.l0] at H
      by_cases c3 : x5_1 < (l0.length : Int)
      · rw [if_pos c3] at H
        have c3b0 : decide (x5_1 < (l0.length : Int)) = true := decide_eq_true c3
        clear c3
        by_cases c4 : 0 ≤ x5_1
        · rw [if_pos c4] at H
          have c4b0 : decide (0 ≤ x5_1) = true := decide_eq_true c4
          clear c4
          by_cases c5 : (rd l0 x5_1) = x1_1
          · rw [if_pos c5] at H
            have c5b0 : ((rd l0 x5_1) == x1_1) = true := beq_iff_eq.mpr c5
            have c5b1 : ((rd l0 x5_1) != x1_1) = false := bne_eq_false_iff_eq.mpr c5
            clear c5
            have H' := Aside0.mk H
            clear H
            have p227 : 0 ≤ (x5_1 : Int) := of_decide_eq_true (by first | (with_reducible assumption) | assumption)
            have q227 : x5_1 < (l0.length : Int) := of_decide_eq_true (by first | (with_reducible assumption) | assumption)
            obtain ⟨ad227, e227, hx227_0⟩ := Kd.at_int HR0.out x5_1 p227 q227
            cases e227
            replace p227 := eq_true p227
            replace q227 := eq_true q227
            go_wp2
            go_roundg k1
            case measure => have := HK1.out; omega
            case rel => exact ⟨(wrap64 (x1_1 + 1)), (wrap64 (x5_1 + 1)), (by first | rfl | (simp; done) | (simp [*]; done)), (by first | rfl | (simp; done) | (simp [*]; done)), H', ⟨by have := HK1.out; omega⟩, by repeat (first | exact Drawn0.refl _ | apply Drawn0.step)⟩
          · rw [if_neg c5] at H
            have c5b0 : ((rd l0 x5_1) == x1_1) = false := beq_eq_false_iff_ne.mpr c5
            have c5b1 : ((rd l0 x5_1) != x1_1) = true := bne_iff_ne.mpr c5
            obtain rfl := Option.some.inj H
            have p227 : 0 ≤ (x5_1 : Int) := of_decide_eq_true (by first | (with_reducible assumption) | assumption)
            have q227 : x5_1 < (l0.length : Int) := of_decide_eq_true (by first | (with_reducible assumption) | assumption)
            obtain ⟨ad227, e227, hx227_0⟩ := Kd.at_int HR0.out x5_1 p227 q227
            cases e227
            replace p227 := eq_true p227
            replace q227 := eq_true q227
            go_wp2
            go_ret
            exact ⟨by first | rfl | (simp; done) | (simp [*]; done), by repeat (first | exact Drawn0.refl _ | apply Drawn0.step)⟩
        · rw [if_neg c4] at H
          exact absurd H (by simp)
      · rw [if_neg c3] at H
        have c3b0 : decide (x5_1 < (l0.length : Int)) = false := decide_eq_false c3
        clear c3
        obtain rfl := Option.some.inj H
        go_wp2
        go_ret
        exact ⟨by first | rfl | (simp; done) | (simp [*]; done), by repeat (first | exact Drawn0.refl _ | apply Drawn0.step)⟩

/-! ### laws_heldIntSS: function 28 -/
def laws_heldIntSS.l0 : Nat → List (List Int) → Int → Int → Option (Int)
  | 0, _, _, _ => none
  | k + 1, x0, x1, x5 => if x5 < (x0.length : Int) then (if 0 ≤ x5 then ((laws_heldIntS.f k (rd_L3 x0 x5) x1).bind fun t229 => (if t229 < 0 then (some (-1)) else (laws_heldIntSS.l0 k x0 t229 (wrap64 (x5 + 1))))) else (none)) else (some x1)
def laws_heldIntSS.f (k : Nat) (l0 : List (List Int)) (a1 : Int) : Option (Int) := laws_heldIntSS.l0 k l0 a1 0
theorem laws_heldIntSS.mono_l : ∀ k, (∀ y0 y1 y2, LeO (laws_heldIntSS.l0 k y0 y1 y2) (laws_heldIntSS.l0 (k + 1) y0 y1 y2))
  | 0 => fun _ _ _ r h => by simp [laws_heldIntSS.l0] at h
  | k + 1 => by
    have ih0 := laws_heldIntSS.mono_l k
    · intro y0 y1 y2
      unfold laws_heldIntSS.l0
      repeat' first
      | (with_reducible exact ih0 _ _ _)
      | (with_reducible exact laws_heldIntS.mono _ _ _)
      | (with_reducible exact LeO.refl _)
      | (with_reducible exact LeO.none _)
      | (with_reducible refine LeO.ite ?_ ?_)
      | (with_reducible refine LeO.bind ?_ (fun _ => ?_))
      | exact ih0 _ _ _
      | exact laws_heldIntS.mono _ _ _
      | exact LeO.none _
      | refine LeO.ite ?_ ?_
      | refine LeO.bind ?_ (fun _ => ?_)
theorem laws_heldIntSS.mono : ∀ a0 a1 k, LeO (laws_heldIntSS.f k a0 a1) (laws_heldIntSS.f (k + 1) a0 a1) := by
  intro a0 a1 k
  have ih0 := laws_heldIntSS.mono_l k
  unfold laws_heldIntSS.f
  repeat' first
      | (with_reducible exact ih0 _ _ _)
      | (with_reducible exact laws_heldIntS.mono _ _ _)
      | (with_reducible exact LeO.refl _)
      | (with_reducible exact LeO.none _)
      | (with_reducible refine LeO.ite ?_ ?_)
      | (with_reducible refine LeO.bind ?_ (fun _ => ?_))
      | exact ih0 _ _ _
      | exact laws_heldIntS.mono _ _ _
      | exact LeO.none _
      | refine LeO.ite ?_ ?_
      | refine LeO.bind ?_ (fun _ => ?_)
set_option maxHeartbeats 8000000 in
set_option maxRecDepth 100000 in
theorem laws_heldIntSS.calls (k : Nat) (A0 : Option Addr) (c0 : Nat) (l0 : List (List Int)) (a1 : Int) (r : Int) (w : World) (hr0 : Kd.C (Kd.slice 3 (Kd.int .i64)) w A0 l0.length l0) (hc0 : l0.length ≤ c0) (h : laws_heldIntSS.f k l0 a1 = some r) :
    Calls Try.prog 28 #[.slice A0 l0.length c0, .int .i64 a1] w fun e w' => e = .returned (.int .i64 r) ∧ Drawn0 w w' := by
  have HR0 := Aside0.mk hr0
  have HC0 := Aside0.mk hc0
  clear hr0 hc0
  have H : (laws_heldIntSS.l0 k l0 a1 0) = some r := h
  clear h
  have H' := Aside0.mk H
  clear H
  go_enter Try.func28, Try.ntmps28
  go_wp2
  go_loopg [1, 5] k (fun kq v1 v5 w' => ∃ (x1_1 : Int) (x5_1 : Int), v1 = .int .i64 x1_1 ∧ v5 = .int .i64 x5_1 ∧ Aside0 (laws_heldIntSS.l0 kq l0 x1_1 x5_1 = some r) ∧ Aside0 (kq ≤ k) ∧ Drawn0 w w')
  case atStart => exact ⟨(a1), (0), (by first | rfl | (simp; done) | (simp [*]; done)), (by first | rfl | (simp; done) | (simp [*]; done)), H', ⟨Nat.le_refl _⟩, by repeat (first | exact Drawn0.refl _ | apply Drawn0.step)⟩
  case round =>
    clear H'
    try clear c2
    try clear p2
    obtain ⟨x1_1, x5_1, rfl, rfl, HA, HK1, ⟨m1, rfl⟩⟩ := hrel
    cases gk with
    | zero => exact absurd HA.out (by simp [laws_heldIntSS.l0])
    | succ k1 =>
      have H := HA.out
      clear HA
      simp only [laws_heldIntSS.l0] at H
      by_cases c3 : x5_1 < (l0.length : Int)
      · rw [if_pos c3] at H
        have c3b0 : decide (x5_1 < (l0.length : Int)) = true := decide_eq_true c3
        clear c3
        by_cases c4 : 0 ≤ x5_1
        · rw [if_pos c4] at H
          have c4b0 : decide (0 ≤ x5_1) = true := decide_eq_true c4
          clear c4
          replace H := Option.bind_eq_some_iff.mp H
          obtain ⟨t229, A50, H⟩ := H
          replace H : (if t229 < 0 then (some (-1)) else (laws_heldIntSS.l0 k1 l0 t229 (wrap64 (x5_1 + 1)))) = some r := H
          have A5 := Aside0.mk A50
          clear A50
          by_cases c6 : t229 < 0
          · rw [if_pos c6] at H
            have c6b0 : decide (t229 < 0) = true := decide_eq_true c6
            clear c6
            obtain rfl := Option.some.inj H
            have p228 : 0 ≤ (x5_1 : Int) := of_decide_eq_true (by first | (with_reducible assumption) | assumption)
            have q228 : x5_1 < (l0.length : Int) := of_decide_eq_true (by first | (with_reducible assumption) | assumption)
            obtain ⟨ad228, A228_0, c228_0, e228, hx228_0, hl228_0, hi228_0⟩ := at_L3 HR0.out x5_1 p228 q228
            cases e228
            have HR228_0 := Aside0.mk hi228_0
            have HC228_0 := Aside0.mk hl228_0
            clear hi228_0 hl228_0
            replace p228 := eq_true p228
            replace q228 := eq_true q228
            go_wp2_with (first | ((with_reducible refine gate_callee (f := 23) rfl ?_); refine goesL_ (some 17) rfl rfl Try.func23 (by kernel_rfl) rfl #[.slice A228_0 (rd_L3 l0 x5_1).length c228_0, .int .i64 x1_1] rfl (by (try simp only [List.map_toArray, List.map_cons, List.map_nil]); first | done | rfl | (simp only [List.length_drop, List.length_take]; rfl)) ?_; (with_reducible refine (laws_heldIntS.calls k1 _ _ (rd_L3 l0 x5_1) x1_1 t229 _ ?side1 ?side2 A5.out).mono ?_); (case side1 => repeat (first | exact HR228_0.out | (with_reducible refine Kd.C_alloc ?_ _) | (with_reducible refine Kd.C_drewN ?_ _) | (with_reducible refine Kd.C_drew ?_))); (case side2 => exact HC228_0.out); rintro e w' ⟨rfl, ⟨nd, rfl⟩⟩; refine ⟨_, rfl, ?_⟩))
            go_ret
            exact ⟨by first | rfl | (simp; done) | (simp [*]; done), by repeat (first | exact Drawn0.refl _ | apply Drawn0.step)⟩
          · rw [if_neg c6] at H
            have c6b0 : decide (t229 < 0) = false := decide_eq_false c6
            clear c6
            have H' := Aside0.mk H
            clear H
            have p228 : 0 ≤ (x5_1 : Int) := of_decide_eq_true (by first | (with_reducible assumption) | assumption)
            have q228 : x5_1 < (l0.length : Int) := of_decide_eq_true (by first | (with_reducible assumption) | assumption)
            obtain ⟨ad228, A228_0, c228_0, e228, hx228_0, hl228_0, hi228_0⟩ := at_L3 HR0.out x5_1 p228 q228
            cases e228
            have HR228_0 := Aside0.mk hi228_0
            have HC228_0 := Aside0.mk hl228_0
            clear hi228_0 hl228_0
            replace p228 := eq_true p228
            replace q228 := eq_true q228
            go_wp2_with (first | ((with_reducible refine gate_callee (f := 23) rfl ?_); refine goesL_ (some 17) rfl rfl Try.func23 (by kernel_rfl) rfl #[.slice A228_0 (rd_L3 l0 x5_1).length c228_0, .int .i64 x1_1] rfl (by (try simp only [List.map_toArray, List.map_cons, List.map_nil]); first | done | rfl | (simp only [List.length_drop, List.length_take]; rfl)) ?_; (with_reducible refine (laws_heldIntS.calls k1 _ _ (rd_L3 l0 x5_1) x1_1 t229 _ ?side1 ?side2 A5.out).mono ?_); (case side1 => repeat (first | exact HR228_0.out | (with_reducible refine Kd.C_alloc ?_ _) | (with_reducible refine Kd.C_drewN ?_ _) | (with_reducible refine Kd.C_drew ?_))); (case side2 => exact HC228_0.out); rintro e w' ⟨rfl, ⟨nd, rfl⟩⟩; refine ⟨_, rfl, ?_⟩))
            go_roundg k1
            case measure => have := HK1.out; omega
            case rel => exact ⟨(t229), (wrap64 (x5_1 + 1)), (by first | rfl | (simp; done) | (simp [*]; done)), (by first | rfl | (simp; done) | (simp [*]; done)), H', ⟨by have := HK1.out; omega⟩, by repeat (first | exact Drawn0.refl _ | apply Drawn0.step)⟩
        · rw [if_neg c4] at H
          exact absurd H (by simp)
      · rw [if_neg c3] at H
        have c3b0 : decide (x5_1 < (l0.length : Int)) = false := decide_eq_false c3
        clear c3
        obtain rfl := Option.some.inj H
        go_wp2
        go_ret
        exact ⟨by first | rfl | (simp; done) | (simp [*]; done), by repeat (first | exact Drawn0.refl _ | apply Drawn0.step)⟩

/-! ### laws_FnExactSolutions: function 4 -/
-- NEEDS loop.example/g01305/laws.szPuzzle ; loop.example/g01305/laws.toPuzzle ; loop.example/g01305/spec.Solutions ; loop.example/g01305/impl.Solutions ; loop.example/g01305/laws.eqIntSS ; loop.example/g01305/laws.eqPuzzle ; loop.example/g01305/laws.markPuzzle ; loop.example/g01305/laws.markIntSS ; loop.example/g01305/laws.heldIntSS
-- USES lawiv
def laws_FnExactSolutions.f (k : Nat) (l_a : List S103) : Option Bool :=
  (laws_szPuzzle.f l_a 1048576).bind fun t => if t < 0 then some true else
  (laws_toPuzzle.f k l_a).bind fun p => (spec_Solutions.f k p).bind fun w => (impl_Solutions.f k p).bind fun g =>
  (laws_eqIntSS.f k g.1 w.1).bind fun e1 => (laws_eqPuzzle.f k p p).bind fun e2 => (laws_markPuzzle.f k p 1).bind fun mp => (laws_markIntSS.f k g.1 1).bind fun m => (laws_heldIntSS.f k m.2 1).bind fun q =>
  if e1 = true ∧ e2 = true ∧ g.2 = w.2 ∧ 0 ≤ mp.1 ∧ 0 ≤ q ∧ q = m.1 then some true else none
set_option maxHeartbeats 8000000 in
set_option maxRecDepth 100000 in
theorem laws_FnExactSolutions.calls (k : Nat) (A_a : Option Addr) (c_a : Nat) (l_a : List S103) (r : Bool) (w : World) (hr_a : Kd.C k103 w A_a l_a.length l_a) (hc_a : l_a.length ≤ c_a) (h : laws_FnExactSolutions.f k l_a = some r) :
    Calls Try.prog 4 #[.agg #[.slice A_a l_a.length c_a]] w fun e w' => e = .returned (.bool r) ∧ Below w.heap.size w w' := by
  unfold laws_FnExactSolutions.f at h
  obtain ⟨t, h0, h⟩ := Option.bind_eq_some_iff.1 h
  have HA_a := Aside0.mk hr_a
  have HC_a := Aside0.mk hc_a
  have H0 := Aside0.mk h0
  have HB := Aside0.mk (Below.refl w.heap.size w)
  clear hr_a hc_a h0
  by_cases ht : t < 0
  · rw [if_pos ht] at h
    obtain rfl := Option.some.inj h
    have htd := decide_eq_true ht
    clear h ht
    go_enter Try.func4, Try.ntmps4
    go_wp2_with (go_at_call 15; refine (laws_szPuzzle.calls A_a c_a l_a 1048576 t _ (by repeat (first | (with_reducible exact (Kd.C_below HA_a.out HB.out)) | (with_reducible refine Kd.C_alloc ?_ _) | (with_reducible refine Kd.C_drewN ?_ _) | (with_reducible refine Kd.C_drew ?_))) HC_a.out H0.out).mono ?_; rintro e w1 ⟨rfl, hb⟩; (first | replace hb := hb.below | skip); have HE_ : Aside0 (Below w.heap.size w w1) := ⟨below_step (by repeat (first | (with_reducible exact Below.refl _ _) | (with_reducible refine below_alloc ?_ _) | (with_reducible refine pw_below_drewN ?_ _) | (with_reducible refine below_drew ?_))) hb⟩; have HB := Aside0.mk (below_step HB.out HE_.out); have HZ_1 := Aside0.mk HE_.out.size; have HX_0 : Aside0 (w1.heap[w.heap.size]? = some (.cells #[.slice A_a (l_a).length c_a] 24 (0, 0))) := ⟨blk_below (by repeat (first | (with_reducible exact blk_new _ _) | (with_reducible refine blk_alloc ?_ _) | (with_reducible refine blk_drewN ?_ _) | (with_reducible refine blk_drew ?_))) hb⟩; have HXL_0 := Aside0.mk (blk_lt HX_0.out); (try clear hc0_0); clear hb; have hc0_0 : w1.cell? ⟨w.heap.size, 0, none⟩ = some (.slice A_a (l_a).length c_a) := (blk_cell HX_0.out 0).trans rfl; refine Aside0.out ?_)
    refine Aside0.mk ?_
    go_wp2
    go_ret
    exact ⟨rfl, (by repeat (first | (with_reducible exact HB.out) | (with_reducible refine below_alloc ?_ _) | (with_reducible refine pw_below_drewN ?_ _) | (with_reducible refine below_drew ?_)))⟩
  · rw [if_neg ht] at h
    obtain ⟨p, h1, h⟩ := Option.bind_eq_some_iff.1 h
    obtain ⟨⟨wl, wb⟩, h2, h⟩ := Option.bind_eq_some_iff.1 h
    obtain ⟨⟨gl, gb⟩, h3, h⟩ := Option.bind_eq_some_iff.1 h
    obtain ⟨e1, h4, h⟩ := Option.bind_eq_some_iff.1 h
    obtain ⟨e2, h5, h⟩ := Option.bind_eq_some_iff.1 h
    obtain ⟨⟨mp, pl⟩, h6, h⟩ := Option.bind_eq_some_iff.1 h
    obtain ⟨⟨m, ml⟩, h7, h⟩ := Option.bind_eq_some_iff.1 h
    obtain ⟨q, h8, h⟩ := Option.bind_eq_some_iff.1 h
    by_cases hcd : e1 = true ∧ e2 = true ∧ gb = wb ∧ 0 ≤ mp ∧ 0 ≤ q ∧ q = m
    case neg => rw [if_neg hcd] at h; cases h
    rw [if_pos hcd] at h
    obtain rfl := Option.some.inj h
    obtain ⟨rfl, rfl, rfl, hmp, hq, rfl⟩ := hcd
    have hbb : (gb != gb) = false := by cases gb <;> rfl
    have hqq : (q != q) = false := bne_eq_false_iff_eq.mpr rfl
    have htd := decide_eq_false ht
    have hmpd : decide (mp < 0) = false := decide_eq_false (by omega)
    have hqd : decide (q < 0) = false := decide_eq_false (by omega)
    have H1 := Aside0.mk h1
    have H2 := Aside0.mk h2
    have H3 := Aside0.mk h3
    have H4 := Aside0.mk h4
    have H5 := Aside0.mk h5
    have H6 := Aside0.mk h6
    have H7 := Aside0.mk h7
    have H8 := Aside0.mk h8
    clear h h1 h2 h3 h4 h5 h6 h7 h8 ht hmp hq
    go_enter Try.func4, Try.ntmps4
    go_wp2_with (go_at_call 15; refine (laws_szPuzzle.calls A_a c_a l_a 1048576 t _ (by repeat (first | (with_reducible exact (Kd.C_below HA_a.out HB.out)) | (with_reducible refine Kd.C_alloc ?_ _) | (with_reducible refine Kd.C_drewN ?_ _) | (with_reducible refine Kd.C_drew ?_))) HC_a.out H0.out).mono ?_; rintro e w1 ⟨rfl, hb⟩; (first | replace hb := hb.below | skip); have HE_ : Aside0 (Below w.heap.size w w1) := ⟨below_step (by repeat (first | (with_reducible exact Below.refl _ _) | (with_reducible refine below_alloc ?_ _) | (with_reducible refine pw_below_drewN ?_ _) | (with_reducible refine below_drew ?_))) hb⟩; have HB := Aside0.mk (below_step HB.out HE_.out); have HZ_1 := Aside0.mk HE_.out.size; have HX_0 : Aside0 (w1.heap[w.heap.size]? = some (.cells #[.slice A_a (l_a).length c_a] 24 (0, 0))) := ⟨blk_below (by repeat (first | (with_reducible exact blk_new _ _) | (with_reducible refine blk_alloc ?_ _) | (with_reducible refine blk_drewN ?_ _) | (with_reducible refine blk_drew ?_))) hb⟩; have HXL_0 := Aside0.mk (blk_lt HX_0.out); (try clear hc0_0); clear hb; have hc0_0 : w1.cell? ⟨w.heap.size, 0, none⟩ = some (.slice A_a (l_a).length c_a) := (blk_cell HX_0.out 0).trans rfl; refine Aside0.out ?_)
    refine Aside0.mk ?_
    go_wp2_with (go_at_call 17; refine (laws_toPuzzle.calls k A_a c_a l_a (p) _ (by repeat (first | (with_reducible exact (Kd.C_below HA_a.out HB.out)) | (with_reducible refine Kd.C_alloc ?_ _) | (with_reducible refine Kd.C_drewN ?_ _) | (with_reducible refine Kd.C_drew ?_))) HC_a.out H1.out).mono ?_; rintro e w2 ⟨v_, rfl, ho, hb⟩; have HE_ : Aside0 (Below w1.heap.size w1 w2) := ⟨below_step (by repeat (first | (with_reducible exact Below.refl _ _) | (with_reducible refine below_alloc ?_ _) | (with_reducible refine pw_below_drewN ?_ _) | (with_reducible refine below_drew ?_))) hb⟩; obtain ⟨A_p1, c_p1, rfl⟩ := Kd.R_slice ho; have HW_p1 := Aside0.mk (R_iv ho (show Below w1.heap.size w1 _ from (by repeat (first | (with_reducible exact Below.refl _ _) | (with_reducible refine below_alloc ?_ _) | (with_reducible refine pw_below_drewN ?_ _) | (with_reducible refine below_drew ?_)))).size HB.out.size); have HB := Aside0.mk (below_step HB.out HE_.out); have HZ_2 := Aside0.mk HE_.out.size; have HX_0 := Aside0.mk (blk_below HX_0.out HE_.out); (try clear hc0_0); clear hb ho; have hc0_0 : w2.cell? ⟨w.heap.size, 0, none⟩ = some (.slice A_a (l_a).length c_a) := (blk_cell HX_0.out 0).trans rfl; refine Aside0.out ?_)
    refine Aside0.mk ?_
    go_wp2_with (go_at_call 24; refine (spec_Solutions.calls k A_p1 c_p1 (p) (wl) gb _ (by repeat (first | (with_reducible exact (Kd.R_reads' HW_p1.out).2.2) | (with_reducible refine Kd.C_alloc ?_ _) | (with_reducible refine Kd.C_drewN ?_ _) | (with_reducible refine Kd.C_drew ?_))) (Kd.R_reads' HW_p1.out).2.1 H2.out).mono ?_; rintro e w3 ⟨v_, rfl, ho, hb⟩; have HE_ : Aside0 (Below w2.heap.size w2 w3) := ⟨below_step (by repeat (first | (with_reducible exact Below.refl _ _) | (with_reducible refine below_alloc ?_ _) | (with_reducible refine pw_below_drewN ?_ _) | (with_reducible refine below_drew ?_))) hb⟩; obtain ⟨A_w, c_w, rfl⟩ := Kd.S_slice ho; have HW_w := Aside0.mk (S_iv ho (show Below w2.heap.size w2 _ from (by repeat (first | (with_reducible exact Below.refl _ _) | (with_reducible refine below_alloc ?_ _) | (with_reducible refine pw_below_drewN ?_ _) | (with_reducible refine below_drew ?_)))).size HB.out.size); have HB := Aside0.mk (below_step HB.out HE_.out); have HZ_3 := Aside0.mk HE_.out.size; have HW_p1 := Aside0.mk (Kd.R_below HW_p1.out HE_.out); have HX_0 := Aside0.mk (blk_below HX_0.out HE_.out); (try clear hc0_0); clear hb ho; have hc0_0 : w3.cell? ⟨w.heap.size, 0, none⟩ = some (.slice A_a (l_a).length c_a) := (blk_cell HX_0.out 0).trans rfl; refine Aside0.out ?_)
    refine Aside0.mk ?_
    go_wp2_with (go_at_call 17; refine (laws_toPuzzle.calls k A_a c_a l_a (p) _ (by repeat (first | (with_reducible exact (Kd.C_below HA_a.out HB.out)) | (with_reducible refine Kd.C_alloc ?_ _) | (with_reducible refine Kd.C_drewN ?_ _) | (with_reducible refine Kd.C_drew ?_))) HC_a.out H1.out).mono ?_; rintro e w4 ⟨v_, rfl, ho, hb⟩; have HE_ : Aside0 (Below w3.heap.size w3 w4) := ⟨below_step (by repeat (first | (with_reducible exact Below.refl _ _) | (with_reducible refine below_alloc ?_ _) | (with_reducible refine pw_below_drewN ?_ _) | (with_reducible refine below_drew ?_))) hb⟩; obtain ⟨A_x, c_x, rfl⟩ := Kd.R_slice ho; have HW_x := Aside0.mk (R_iv ho (show Below w3.heap.size w3 _ from (by repeat (first | (with_reducible exact Below.refl _ _) | (with_reducible refine below_alloc ?_ _) | (with_reducible refine pw_below_drewN ?_ _) | (with_reducible refine below_drew ?_)))).size HB.out.size); have HB := Aside0.mk (below_step HB.out HE_.out); have HZ_4 := Aside0.mk HE_.out.size; have HW_p1 := Aside0.mk (Kd.R_below HW_p1.out HE_.out); have HW_w := Aside0.mk (Kd.S_below HW_w.out HE_.out); have HX_0 := Aside0.mk (blk_below HX_0.out HE_.out); (try clear hc0_0); clear hb ho; have hc0_0 : w4.cell? ⟨w.heap.size, 0, none⟩ = some (.slice A_a (l_a).length c_a) := (blk_cell HX_0.out 0).trans rfl; refine Aside0.out ?_)
    refine Aside0.mk ?_
    go_wp2_with (go_at_call 25; refine (impl_Solutions.calls k A_x c_x (p) (gl) gb _ (by repeat (first | (with_reducible exact (Kd.R_reads' HW_x.out).2.2) | (with_reducible refine Kd.C_alloc ?_ _) | (with_reducible refine Kd.C_drewN ?_ _) | (with_reducible refine Kd.C_drew ?_))) (Kd.R_reads' HW_x.out).2.1 H3.out).mono ?_; rintro e w5 ⟨v_, rfl, ho, hb⟩; have HE_ : Aside0 (Below w4.heap.size w4 w5) := ⟨below_step (by repeat (first | (with_reducible exact Below.refl _ _) | (with_reducible refine below_alloc ?_ _) | (with_reducible refine pw_below_drewN ?_ _) | (with_reducible refine below_drew ?_))) hb⟩; obtain ⟨A_g, c_g, rfl⟩ := Kd.S_slice ho; have HW_g := Aside0.mk (S_iv (b := w4.heap.size + 1) ho (blk_lt (g := w4.heap.size) (o := .cells #[.slice A_x (p).length c_x] 31 (0, 0)) (by repeat (first | (with_reducible exact blk_new _ _) | (with_reducible refine blk_alloc ?_ _) | (with_reducible refine blk_drewN ?_ _) | (with_reducible refine blk_drew ?_)))) (Nat.le_succ_of_le HB.out.size)); have HB := Aside0.mk (below_step HB.out HE_.out); have HZ_5 := Aside0.mk HE_.out.size; have HW_p1 := Aside0.mk (Kd.R_below HW_p1.out HE_.out); have HW_w := Aside0.mk (Kd.S_below HW_w.out HE_.out); have HW_x := Aside0.mk (Kd.R_below HW_x.out HE_.out); have HX_0 := Aside0.mk (blk_below HX_0.out HE_.out); have HX_1 : Aside0 (w5.heap[w4.heap.size]? = some (.cells #[.slice A_x (p).length c_x] 31 (0, 0))) := ⟨blk_below (by repeat (first | (with_reducible exact blk_new _ _) | (with_reducible refine blk_alloc ?_ _) | (with_reducible refine blk_drewN ?_ _) | (with_reducible refine blk_drew ?_))) hb⟩; have HXL_1 := Aside0.mk (blk_lt HX_1.out); (try clear hc0_0); (try clear hc1_0); clear hb ho; have hc0_0 : w5.cell? ⟨w.heap.size, 0, none⟩ = some (.slice A_a (l_a).length c_a) := (blk_cell HX_0.out 0).trans rfl; have hc1_0 : w5.cell? ⟨w4.heap.size, 0, none⟩ = some (.slice A_x (p).length c_x) := (blk_cell HX_1.out 0).trans rfl; refine Aside0.out ?_)
    refine Aside0.mk ?_
    go_wp2_with (go_at_call 26; refine (laws_eqIntSS.calls k A_g c_g (gl) A_w c_w (wl) true _ (by repeat (first | (with_reducible exact (Kd.S_reads' HW_g.out).2.2) | (with_reducible refine Kd.C_alloc ?_ _) | (with_reducible refine Kd.C_drewN ?_ _) | (with_reducible refine Kd.C_drew ?_))) (Kd.S_reads' HW_g.out).2.1 (by repeat (first | (with_reducible exact (Kd.S_reads' HW_w.out).2.2) | (with_reducible refine Kd.C_alloc ?_ _) | (with_reducible refine Kd.C_drewN ?_ _) | (with_reducible refine Kd.C_drew ?_))) (Kd.S_reads' HW_w.out).2.1 H4.out).mono ?_; rintro e w6 ⟨rfl, hb⟩; (first | replace hb := hb.below | skip); have HE_ : Aside0 (Below w5.heap.size w5 w6) := ⟨below_step (by repeat (first | (with_reducible exact Below.refl _ _) | (with_reducible refine below_alloc ?_ _) | (with_reducible refine pw_below_drewN ?_ _) | (with_reducible refine below_drew ?_))) hb⟩; have HB := Aside0.mk (below_step HB.out HE_.out); have HZ_6 := Aside0.mk HE_.out.size; have HW_p1 := Aside0.mk (Kd.R_below HW_p1.out HE_.out); have HW_w := Aside0.mk (Kd.S_below HW_w.out HE_.out); have HW_x := Aside0.mk (Kd.R_below HW_x.out HE_.out); have HW_g := Aside0.mk (Kd.S_below HW_g.out HE_.out); have HX_0 := Aside0.mk (blk_below HX_0.out HE_.out); have HX_1 := Aside0.mk (blk_below HX_1.out HE_.out); (try clear hc0_0); (try clear hc1_0); clear hb; have hc0_0 : w6.cell? ⟨w.heap.size, 0, none⟩ = some (.slice A_a (l_a).length c_a) := (blk_cell HX_0.out 0).trans rfl; have hc1_0 : w6.cell? ⟨w4.heap.size, 0, none⟩ = some (.slice A_x (p).length c_x) := (blk_cell HX_1.out 0).trans rfl; refine Aside0.out ?_)
    refine Aside0.mk ?_
    go_wp2_with fail
    go_region_held_law (fun w' => w'.cell? ⟨w.heap.size, 0, none⟩ = some (.slice A_a (l_a).length c_a) ∧ w'.cell? ⟨w4.heap.size, 0, none⟩ = some (.slice A_x (p).length c_x))
      (first | exact ⟨hc0_0, hc1_0⟩ | go_keep)
      (first | (go_at_call 17; refine (laws_toPuzzle.calls k A_a c_a l_a (p) _ (by repeat (first | (with_reducible exact (Kd.C_below HA_a.out HB.out)) | (with_reducible refine Kd.C_alloc ?_ _) | (with_reducible refine Kd.C_drewN ?_ _) | (with_reducible refine Kd.C_drew ?_))) HC_a.out H1.out).mono ?_; rintro e w7 ⟨v_, rfl, ho, hb⟩; have HE_ : Aside0 (Below w6.heap.size w6 w7) := ⟨below_step (by repeat (first | (with_reducible exact Below.refl _ _) | (with_reducible refine below_alloc ?_ _) | (with_reducible refine pw_below_drewN ?_ _) | (with_reducible refine below_drew ?_))) hb⟩; obtain ⟨A_p2, c_p2, rfl⟩ := Kd.R_slice ho; have HW_p2 := Aside0.mk (R_iv ho (show Below w6.heap.size w6 _ from (by repeat (first | (with_reducible exact Below.refl _ _) | (with_reducible refine below_alloc ?_ _) | (with_reducible refine pw_below_drewN ?_ _) | (with_reducible refine below_drew ?_)))).size HB.out.size); have HB := Aside0.mk (below_step HB.out HE_.out); have HZ_7 := Aside0.mk HE_.out.size; have HW_p1 := Aside0.mk (Kd.R_below HW_p1.out HE_.out); have HW_w := Aside0.mk (Kd.S_below HW_w.out HE_.out); have HW_x := Aside0.mk (Kd.R_below HW_x.out HE_.out); have HW_g := Aside0.mk (Kd.S_below HW_g.out HE_.out); have HX_0 := Aside0.mk (blk_below HX_0.out HE_.out); have HX_1 := Aside0.mk (blk_below HX_1.out HE_.out); (try clear hc0_0); (try clear hc1_0); clear hb ho; have hc0_0 : w7.cell? ⟨w.heap.size, 0, none⟩ = some (.slice A_a (l_a).length c_a) := (blk_cell HX_0.out 0).trans rfl; have hc1_0 : w7.cell? ⟨w4.heap.size, 0, none⟩ = some (.slice A_x (p).length c_x) := (blk_cell HX_1.out 0).trans rfl) | (go_at_call 20; refine (laws_eqPuzzle.calls k A_x c_x (p) A_p2 c_p2 (p) true _ (by repeat (first | (with_reducible exact (Kd.R_reads' HW_x.out).2.2) | (with_reducible refine Kd.C_alloc ?_ _) | (with_reducible refine Kd.C_drewN ?_ _) | (with_reducible refine Kd.C_drew ?_))) (Kd.R_reads' HW_x.out).2.1 (by repeat (first | (with_reducible exact (Kd.R_reads' HW_p2.out).2.2) | (with_reducible refine Kd.C_alloc ?_ _) | (with_reducible refine Kd.C_drewN ?_ _) | (with_reducible refine Kd.C_drew ?_))) (Kd.R_reads' HW_p2.out).2.1 H5.out).mono ?_; rintro e w8 ⟨rfl, hb⟩; (first | replace hb := hb.below | skip); have HE_ : Aside0 (Below w7.heap.size w7 w8) := ⟨below_step (by repeat (first | (with_reducible exact Below.refl _ _) | (with_reducible refine below_alloc ?_ _) | (with_reducible refine pw_below_drewN ?_ _) | (with_reducible refine below_drew ?_))) hb⟩; have HB := Aside0.mk (below_step HB.out HE_.out); have HZ_8 := Aside0.mk HE_.out.size; have HW_p1 := Aside0.mk (Kd.R_below HW_p1.out HE_.out); have HW_w := Aside0.mk (Kd.S_below HW_w.out HE_.out); have HW_x := Aside0.mk (Kd.R_below HW_x.out HE_.out); have HW_g := Aside0.mk (Kd.S_below HW_g.out HE_.out); have HW_p2 := Aside0.mk (Kd.R_below HW_p2.out HE_.out); have HX_0 := Aside0.mk (blk_below HX_0.out HE_.out); have HX_1 := Aside0.mk (blk_below HX_1.out HE_.out); (try clear hc0_0); (try clear hc1_0); clear hb; have hc0_0 : w8.cell? ⟨w.heap.size, 0, none⟩ = some (.slice A_a (l_a).length c_a) := (blk_cell HX_0.out 0).trans rfl; have hc1_0 : w8.cell? ⟨w4.heap.size, 0, none⟩ = some (.slice A_x (p).length c_x) := (blk_cell HX_1.out 0).trans rfl))
    go_wp2_with (go_at_call 21; refine (laws_markPuzzle.calls k (IV w3.heap.size w4.heap.size) (.slice A_x (p).length c_x) (p) 1 mp (pl) w _ (by repeat (first | (with_reducible exact HB.out) | (with_reducible refine below_alloc ?_ _) | (with_reducible refine pw_below_drewN ?_ _) | (with_reducible refine below_drew ?_))) (by repeat (first | (with_reducible exact HW_x.out) | (with_reducible refine Kd.R_alloc ?_ _) | (with_reducible refine Kd.R_drewN ?_ _) | (with_reducible refine Kd.R_drew ?_))) H6.out).mono ?_; rintro e w9 ⟨rfl, ho, hb, hk⟩; have HE_ := Aside0.mk (show w8.heap.size ≤ w9.heap.size from Nat.le_trans (show Below w8.heap.size w8 _ from (by repeat (first | (with_reducible exact Below.refl _ _) | (with_reducible refine below_alloc ?_ _) | (with_reducible refine pw_below_drewN ?_ _) | (with_reducible refine below_drew ?_)))).size hk.1); have HW_p1 := Aside0.mk (R_ivk (by repeat (first | (with_reducible exact HW_p1.out) | (with_reducible refine Kd.R_alloc ?_ _) | (with_reducible refine Kd.R_drewN ?_ _) | (with_reducible refine Kd.R_drew ?_))) hk (by have := HZ_1.out; have := HZ_2.out; have := HZ_3.out; have := HZ_4.out; have := HZ_5.out; have := HZ_6.out; have := HZ_7.out; have := HZ_8.out; have := HXL_0.out; have := HXL_1.out; omega)); have HW_w := Aside0.mk (S_ivk (by repeat (first | (with_reducible exact HW_w.out) | (with_reducible refine Kd.S_alloc ?_ _) | (with_reducible refine Kd.S_drewN ?_ _) | (with_reducible refine Kd.S_drew ?_))) hk (by have := HZ_1.out; have := HZ_2.out; have := HZ_3.out; have := HZ_4.out; have := HZ_5.out; have := HZ_6.out; have := HZ_7.out; have := HZ_8.out; have := HXL_0.out; have := HXL_1.out; omega)); have HW_g := Aside0.mk (S_ivk (by repeat (first | (with_reducible exact HW_g.out) | (with_reducible refine Kd.S_alloc ?_ _) | (with_reducible refine Kd.S_drewN ?_ _) | (with_reducible refine Kd.S_drew ?_))) hk (by have := HZ_1.out; have := HZ_2.out; have := HZ_3.out; have := HZ_4.out; have := HZ_5.out; have := HZ_6.out; have := HZ_7.out; have := HZ_8.out; have := HXL_0.out; have := HXL_1.out; omega)); have HW_p2 := Aside0.mk (R_ivk (by repeat (first | (with_reducible exact HW_p2.out) | (with_reducible refine Kd.R_alloc ?_ _) | (with_reducible refine Kd.R_drewN ?_ _) | (with_reducible refine Kd.R_drew ?_))) hk (by have := HZ_1.out; have := HZ_2.out; have := HZ_3.out; have := HZ_4.out; have := HZ_5.out; have := HZ_6.out; have := HZ_7.out; have := HZ_8.out; have := HXL_0.out; have := HXL_1.out; omega)); have HX_0 := Aside0.mk (X_ivk (by repeat (first | (with_reducible exact HX_0.out) | (with_reducible refine blk_alloc ?_ _) | (with_reducible refine blk_drewN ?_ _) | (with_reducible refine blk_drew ?_))) hk (by have := HZ_1.out; have := HZ_2.out; have := HZ_3.out; have := HZ_4.out; have := HZ_5.out; have := HZ_6.out; have := HZ_7.out; have := HZ_8.out; have := HXL_0.out; have := HXL_1.out; have := HXL_0.out; omega)); have HX_1 := Aside0.mk (X_ivk (by repeat (first | (with_reducible exact HX_1.out) | (with_reducible refine blk_alloc ?_ _) | (with_reducible refine blk_drewN ?_ _) | (with_reducible refine blk_drew ?_))) hk (by have := HZ_1.out; have := HZ_2.out; have := HZ_3.out; have := HZ_4.out; have := HZ_5.out; have := HZ_6.out; have := HZ_7.out; have := HZ_8.out; have := HXL_0.out; have := HXL_1.out; have := HXL_1.out; omega)); have HB := Aside0.mk hb; have HZ_9 := Aside0.mk HE_.out; (try clear hc0_0); (try clear hc1_0); clear hb ho hk; have hc0_0 : w9.cell? ⟨w.heap.size, 0, none⟩ = some (.slice A_a (l_a).length c_a) := (blk_cell HX_0.out 0).trans rfl; have hc1_0 : w9.cell? ⟨w4.heap.size, 0, none⟩ = some (.slice A_x (p).length c_x) := (blk_cell HX_1.out 0).trans rfl; refine Aside0.out ?_)
    refine Aside0.mk ?_
    go_wp2_with ((try (refine gate_guard (by rfl) ?_; dsimp only)); go_at_call 26; refine (laws_eqIntSS.calls k A_g c_g (gl) A_w c_w (wl) true _ (by repeat (first | (with_reducible exact (Kd.S_reads' HW_g.out).2.2) | (with_reducible refine Kd.C_alloc ?_ _) | (with_reducible refine Kd.C_drewN ?_ _) | (with_reducible refine Kd.C_drew ?_))) (Kd.S_reads' HW_g.out).2.1 (by repeat (first | (with_reducible exact (Kd.S_reads' HW_w.out).2.2) | (with_reducible refine Kd.C_alloc ?_ _) | (with_reducible refine Kd.C_drewN ?_ _) | (with_reducible refine Kd.C_drew ?_))) (Kd.S_reads' HW_w.out).2.1 H4.out).mono ?_; rintro e w10 ⟨rfl, hb⟩; (first | replace hb := hb.below | skip); have HE_ : Aside0 (Below w9.heap.size w9 w10) := ⟨below_step (by repeat (first | (with_reducible exact Below.refl _ _) | (with_reducible refine below_alloc ?_ _) | (with_reducible refine pw_below_drewN ?_ _) | (with_reducible refine below_drew ?_))) hb⟩; have HB := Aside0.mk (below_step HB.out HE_.out); have HZ_10 := Aside0.mk HE_.out.size; have HW_p1 := Aside0.mk (Kd.R_below HW_p1.out HE_.out); have HW_w := Aside0.mk (Kd.S_below HW_w.out HE_.out); have HW_g := Aside0.mk (Kd.S_below HW_g.out HE_.out); have HW_p2 := Aside0.mk (Kd.R_below HW_p2.out HE_.out); have HX_0 := Aside0.mk (blk_below HX_0.out HE_.out); have HX_1 := Aside0.mk (blk_below HX_1.out HE_.out); (try clear hc0_0); (try clear hc1_0); clear hb; have hc0_0 : w10.cell? ⟨w.heap.size, 0, none⟩ = some (.slice A_a (l_a).length c_a) := (blk_cell HX_0.out 0).trans rfl; have hc1_0 : w10.cell? ⟨w4.heap.size, 0, none⟩ = some (.slice A_x (p).length c_x) := (blk_cell HX_1.out 0).trans rfl; refine Aside0.out ?_)
    refine Aside0.mk ?_
    go_wp2_with (go_at_call 27; refine (laws_markIntSS.calls k (IV (w4.heap.size + 1) w5.heap.size) (.slice A_g (gl).length c_g) (gl) 1 q (ml) w _ (by repeat (first | (with_reducible exact HB.out) | (with_reducible refine below_alloc ?_ _) | (with_reducible refine pw_below_drewN ?_ _) | (with_reducible refine below_drew ?_))) (by repeat (first | (with_reducible exact HW_g.out) | (with_reducible refine Kd.S_alloc ?_ _) | (with_reducible refine Kd.S_drewN ?_ _) | (with_reducible refine Kd.S_drew ?_))) H7.out).mono ?_; rintro e w11 ⟨rfl, ho, hb, hk⟩; have HE_ := Aside0.mk (show w10.heap.size ≤ w11.heap.size from Nat.le_trans (show Below w10.heap.size w10 _ from (by repeat (first | (with_reducible exact Below.refl _ _) | (with_reducible refine below_alloc ?_ _) | (with_reducible refine pw_below_drewN ?_ _) | (with_reducible refine below_drew ?_)))).size hk.1); have HW_g := Aside0.mk (S_ivm ho (Nat.le_trans (show (w4.heap.size + 1) ≤ w10.heap.size by have := HZ_1.out; have := HZ_2.out; have := HZ_3.out; have := HZ_4.out; have := HZ_5.out; have := HZ_6.out; have := HZ_7.out; have := HZ_8.out; have := HZ_9.out; have := HZ_10.out; have := HXL_0.out; have := HXL_1.out; omega) (show Below w10.heap.size w10 _ from (by repeat (first | (with_reducible exact Below.refl _ _) | (with_reducible refine below_alloc ?_ _) | (with_reducible refine pw_below_drewN ?_ _) | (with_reducible refine below_drew ?_)))).size)); have HW_p1 := Aside0.mk (R_ivk (by repeat (first | (with_reducible exact HW_p1.out) | (with_reducible refine Kd.R_alloc ?_ _) | (with_reducible refine Kd.R_drewN ?_ _) | (with_reducible refine Kd.R_drew ?_))) hk (by have := HZ_1.out; have := HZ_2.out; have := HZ_3.out; have := HZ_4.out; have := HZ_5.out; have := HZ_6.out; have := HZ_7.out; have := HZ_8.out; have := HZ_9.out; have := HZ_10.out; have := HXL_0.out; have := HXL_1.out; omega)); have HW_w := Aside0.mk (S_ivk (by repeat (first | (with_reducible exact HW_w.out) | (with_reducible refine Kd.S_alloc ?_ _) | (with_reducible refine Kd.S_drewN ?_ _) | (with_reducible refine Kd.S_drew ?_))) hk (by have := HZ_1.out; have := HZ_2.out; have := HZ_3.out; have := HZ_4.out; have := HZ_5.out; have := HZ_6.out; have := HZ_7.out; have := HZ_8.out; have := HZ_9.out; have := HZ_10.out; have := HXL_0.out; have := HXL_1.out; omega)); have HW_p2 := Aside0.mk (R_ivk (by repeat (first | (with_reducible exact HW_p2.out) | (with_reducible refine Kd.R_alloc ?_ _) | (with_reducible refine Kd.R_drewN ?_ _) | (with_reducible refine Kd.R_drew ?_))) hk (by have := HZ_1.out; have := HZ_2.out; have := HZ_3.out; have := HZ_4.out; have := HZ_5.out; have := HZ_6.out; have := HZ_7.out; have := HZ_8.out; have := HZ_9.out; have := HZ_10.out; have := HXL_0.out; have := HXL_1.out; omega)); have HX_0 := Aside0.mk (X_ivk (by repeat (first | (with_reducible exact HX_0.out) | (with_reducible refine blk_alloc ?_ _) | (with_reducible refine blk_drewN ?_ _) | (with_reducible refine blk_drew ?_))) hk (by have := HZ_1.out; have := HZ_2.out; have := HZ_3.out; have := HZ_4.out; have := HZ_5.out; have := HZ_6.out; have := HZ_7.out; have := HZ_8.out; have := HZ_9.out; have := HZ_10.out; have := HXL_0.out; have := HXL_1.out; have := HXL_0.out; omega)); have HX_1 := Aside0.mk (X_ivk (by repeat (first | (with_reducible exact HX_1.out) | (with_reducible refine blk_alloc ?_ _) | (with_reducible refine blk_drewN ?_ _) | (with_reducible refine blk_drew ?_))) hk (by have := HZ_1.out; have := HZ_2.out; have := HZ_3.out; have := HZ_4.out; have := HZ_5.out; have := HZ_6.out; have := HZ_7.out; have := HZ_8.out; have := HZ_9.out; have := HZ_10.out; have := HXL_0.out; have := HXL_1.out; have := HXL_1.out; omega)); have HB := Aside0.mk hb; have HZ_11 := Aside0.mk HE_.out; (try clear hc0_0); (try clear hc1_0); clear hb ho hk; have hlen_g := (Kd.S_reads' HW_g.out).1; rw [hlen_g] at HW_g; rw [hlen_g]; clear hlen_g; have hc0_0 : w11.cell? ⟨w.heap.size, 0, none⟩ = some (.slice A_a (l_a).length c_a) := (blk_cell HX_0.out 0).trans rfl; have hc1_0 : w11.cell? ⟨w4.heap.size, 0, none⟩ = some (.slice A_x (p).length c_x) := (blk_cell HX_1.out 0).trans rfl; refine Aside0.out ?_)
    refine Aside0.mk ?_
    go_wp2_with (go_at_call 28; refine (laws_heldIntSS.calls k A_g c_g (ml) 1 q _ (by repeat (first | (with_reducible exact (Kd.S_reads' HW_g.out).2.2) | (with_reducible refine Kd.C_alloc ?_ _) | (with_reducible refine Kd.C_drewN ?_ _) | (with_reducible refine Kd.C_drew ?_))) (Kd.S_reads' HW_g.out).2.1 H8.out).mono ?_; rintro e w12 ⟨rfl, hb⟩; (first | replace hb := hb.below | skip); have HE_ : Aside0 (Below w11.heap.size w11 w12) := ⟨below_step (by repeat (first | (with_reducible exact Below.refl _ _) | (with_reducible refine below_alloc ?_ _) | (with_reducible refine pw_below_drewN ?_ _) | (with_reducible refine below_drew ?_))) hb⟩; have HB := Aside0.mk (below_step HB.out HE_.out); have HZ_12 := Aside0.mk HE_.out.size; have HW_p1 := Aside0.mk (Kd.R_below HW_p1.out HE_.out); have HW_w := Aside0.mk (Kd.S_below HW_w.out HE_.out); have HW_g := Aside0.mk (Kd.S_below HW_g.out HE_.out); have HW_p2 := Aside0.mk (Kd.R_below HW_p2.out HE_.out); have HX_0 := Aside0.mk (blk_below HX_0.out HE_.out); have HX_1 := Aside0.mk (blk_below HX_1.out HE_.out); (try clear hc0_0); (try clear hc1_0); clear hb; have hc0_0 : w12.cell? ⟨w.heap.size, 0, none⟩ = some (.slice A_a (l_a).length c_a) := (blk_cell HX_0.out 0).trans rfl; have hc1_0 : w12.cell? ⟨w4.heap.size, 0, none⟩ = some (.slice A_x (p).length c_x) := (blk_cell HX_1.out 0).trans rfl; refine Aside0.out ?_)
    refine Aside0.mk ?_
    go_wp2_with (go_at_call 17; refine (laws_toPuzzle.calls k A_a c_a l_a (p) _ (by repeat (first | (with_reducible exact (Kd.C_below HA_a.out HB.out)) | (with_reducible refine Kd.C_alloc ?_ _) | (with_reducible refine Kd.C_drewN ?_ _) | (with_reducible refine Kd.C_drew ?_))) HC_a.out H1.out).mono ?_; rintro e w13 ⟨v_, rfl, ho, hb⟩; have HE_ : Aside0 (Below w12.heap.size w12 w13) := ⟨below_step (by repeat (first | (with_reducible exact Below.refl _ _) | (with_reducible refine below_alloc ?_ _) | (with_reducible refine pw_below_drewN ?_ _) | (with_reducible refine below_drew ?_))) hb⟩; obtain ⟨A_p3, c_p3, rfl⟩ := Kd.R_slice ho; have HW_p3 := Aside0.mk (R_iv ho (show Below w12.heap.size w12 _ from (by repeat (first | (with_reducible exact Below.refl _ _) | (with_reducible refine below_alloc ?_ _) | (with_reducible refine pw_below_drewN ?_ _) | (with_reducible refine below_drew ?_)))).size HB.out.size); have HB := Aside0.mk (below_step HB.out HE_.out); have HZ_13 := Aside0.mk HE_.out.size; have HW_p1 := Aside0.mk (Kd.R_below HW_p1.out HE_.out); have HW_w := Aside0.mk (Kd.S_below HW_w.out HE_.out); have HW_g := Aside0.mk (Kd.S_below HW_g.out HE_.out); have HW_p2 := Aside0.mk (Kd.R_below HW_p2.out HE_.out); have HX_0 := Aside0.mk (blk_below HX_0.out HE_.out); have HX_1 := Aside0.mk (blk_below HX_1.out HE_.out); (try clear hc0_0); (try clear hc1_0); clear hb ho; have hc0_0 : w13.cell? ⟨w.heap.size, 0, none⟩ = some (.slice A_a (l_a).length c_a) := (blk_cell HX_0.out 0).trans rfl; have hc1_0 : w13.cell? ⟨w4.heap.size, 0, none⟩ = some (.slice A_x (p).length c_x) := (blk_cell HX_1.out 0).trans rfl; refine Aside0.out ?_)
    refine Aside0.mk ?_
    go_wp2_with (go_at_call 25; refine (impl_Solutions.calls k A_p3 c_p3 (p) (gl) gb _ (by repeat (first | (with_reducible exact (Kd.R_reads' HW_p3.out).2.2) | (with_reducible refine Kd.C_alloc ?_ _) | (with_reducible refine Kd.C_drewN ?_ _) | (with_reducible refine Kd.C_drew ?_))) (Kd.R_reads' HW_p3.out).2.1 H3.out).mono ?_; rintro e w14 ⟨v_, rfl, ho, hb⟩; have HE_ : Aside0 (Below w13.heap.size w13 w14) := ⟨below_step (by repeat (first | (with_reducible exact Below.refl _ _) | (with_reducible refine below_alloc ?_ _) | (with_reducible refine pw_below_drewN ?_ _) | (with_reducible refine below_drew ?_))) hb⟩; obtain ⟨A_h, c_h, rfl⟩ := Kd.S_slice ho; have HW_h := Aside0.mk (S_iv ho (show Below w13.heap.size w13 _ from (by repeat (first | (with_reducible exact Below.refl _ _) | (with_reducible refine below_alloc ?_ _) | (with_reducible refine pw_below_drewN ?_ _) | (with_reducible refine below_drew ?_)))).size HB.out.size); have HB := Aside0.mk (below_step HB.out HE_.out); have HZ_14 := Aside0.mk HE_.out.size; have HW_p1 := Aside0.mk (Kd.R_below HW_p1.out HE_.out); have HW_w := Aside0.mk (Kd.S_below HW_w.out HE_.out); have HW_g := Aside0.mk (Kd.S_below HW_g.out HE_.out); have HW_p2 := Aside0.mk (Kd.R_below HW_p2.out HE_.out); have HW_p3 := Aside0.mk (Kd.R_below HW_p3.out HE_.out); have HX_0 := Aside0.mk (blk_below HX_0.out HE_.out); have HX_1 := Aside0.mk (blk_below HX_1.out HE_.out); (try clear hc0_0); (try clear hc1_0); clear hb ho; have hc0_0 : w14.cell? ⟨w.heap.size, 0, none⟩ = some (.slice A_a (l_a).length c_a) := (blk_cell HX_0.out 0).trans rfl; have hc1_0 : w14.cell? ⟨w4.heap.size, 0, none⟩ = some (.slice A_x (p).length c_x) := (blk_cell HX_1.out 0).trans rfl; refine Aside0.out ?_)
    refine Aside0.mk ?_
    go_wp2_with (go_at_call 26; refine (laws_eqIntSS.calls k A_h c_h (gl) A_w c_w (wl) true _ (by repeat (first | (with_reducible exact (Kd.S_reads' HW_h.out).2.2) | (with_reducible refine Kd.C_alloc ?_ _) | (with_reducible refine Kd.C_drewN ?_ _) | (with_reducible refine Kd.C_drew ?_))) (Kd.S_reads' HW_h.out).2.1 (by repeat (first | (with_reducible exact (Kd.S_reads' HW_w.out).2.2) | (with_reducible refine Kd.C_alloc ?_ _) | (with_reducible refine Kd.C_drewN ?_ _) | (with_reducible refine Kd.C_drew ?_))) (Kd.S_reads' HW_w.out).2.1 H4.out).mono ?_; rintro e w15 ⟨rfl, hb⟩; (first | replace hb := hb.below | skip); have HE_ : Aside0 (Below w14.heap.size w14 w15) := ⟨below_step (by repeat (first | (with_reducible exact Below.refl _ _) | (with_reducible refine below_alloc ?_ _) | (with_reducible refine pw_below_drewN ?_ _) | (with_reducible refine below_drew ?_))) hb⟩; have HB := Aside0.mk (below_step HB.out HE_.out); have HZ_15 := Aside0.mk HE_.out.size; have HW_p1 := Aside0.mk (Kd.R_below HW_p1.out HE_.out); have HW_w := Aside0.mk (Kd.S_below HW_w.out HE_.out); have HW_g := Aside0.mk (Kd.S_below HW_g.out HE_.out); have HW_p2 := Aside0.mk (Kd.R_below HW_p2.out HE_.out); have HW_p3 := Aside0.mk (Kd.R_below HW_p3.out HE_.out); have HW_h := Aside0.mk (Kd.S_below HW_h.out HE_.out); have HX_0 := Aside0.mk (blk_below HX_0.out HE_.out); have HX_1 := Aside0.mk (blk_below HX_1.out HE_.out); (try clear hc0_0); (try clear hc1_0); clear hb; have hc0_0 : w15.cell? ⟨w.heap.size, 0, none⟩ = some (.slice A_a (l_a).length c_a) := (blk_cell HX_0.out 0).trans rfl; have hc1_0 : w15.cell? ⟨w4.heap.size, 0, none⟩ = some (.slice A_x (p).length c_x) := (blk_cell HX_1.out 0).trans rfl; refine Aside0.out ?_)
    refine Aside0.mk ?_
    go_wp2_with (go_at_call 28; refine (laws_heldIntSS.calls k A_g c_g (ml) 1 q _ (by repeat (first | (with_reducible exact (Kd.S_reads' HW_g.out).2.2) | (with_reducible refine Kd.C_alloc ?_ _) | (with_reducible refine Kd.C_drewN ?_ _) | (with_reducible refine Kd.C_drew ?_))) (Kd.S_reads' HW_g.out).2.1 H8.out).mono ?_; rintro e w16 ⟨rfl, hb⟩; (first | replace hb := hb.below | skip); have HE_ : Aside0 (Below w15.heap.size w15 w16) := ⟨below_step (by repeat (first | (with_reducible exact Below.refl _ _) | (with_reducible refine below_alloc ?_ _) | (with_reducible refine pw_below_drewN ?_ _) | (with_reducible refine below_drew ?_))) hb⟩; have HB := Aside0.mk (below_step HB.out HE_.out); have HZ_16 := Aside0.mk HE_.out.size; have HW_p1 := Aside0.mk (Kd.R_below HW_p1.out HE_.out); have HW_w := Aside0.mk (Kd.S_below HW_w.out HE_.out); have HW_g := Aside0.mk (Kd.S_below HW_g.out HE_.out); have HW_p2 := Aside0.mk (Kd.R_below HW_p2.out HE_.out); have HW_p3 := Aside0.mk (Kd.R_below HW_p3.out HE_.out); have HW_h := Aside0.mk (Kd.S_below HW_h.out HE_.out); have HX_0 := Aside0.mk (blk_below HX_0.out HE_.out); have HX_1 := Aside0.mk (blk_below HX_1.out HE_.out); (try clear hc0_0); (try clear hc1_0); clear hb; have hc0_0 : w16.cell? ⟨w.heap.size, 0, none⟩ = some (.slice A_a (l_a).length c_a) := (blk_cell HX_0.out 0).trans rfl; have hc1_0 : w16.cell? ⟨w4.heap.size, 0, none⟩ = some (.slice A_x (p).length c_x) := (blk_cell HX_1.out 0).trans rfl; refine Aside0.out ?_)
    refine Aside0.mk ?_
    go_wp2
    go_ret
    exact ⟨rfl, (by repeat (first | (with_reducible exact HB.out) | (with_reducible refine below_alloc ?_ _) | (with_reducible refine pw_below_drewN ?_ _) | (with_reducible refine below_drew ?_)))⟩


end Go.Proofs.Ytfiikhdkohgmfaa.PFnExactSolutions
