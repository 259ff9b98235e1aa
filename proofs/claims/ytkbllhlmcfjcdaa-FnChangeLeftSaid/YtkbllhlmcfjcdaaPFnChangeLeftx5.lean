-- MADE FOR THIS CLAIM by wip/xp/xprint.py (with the kit's print; some functions' contracts proved by hand)
import Derived.Test.YtkbllhlmcfjcdaaPFnChangeLeftx0
set_option maxHeartbeats 8000000
set_option maxRecDepth 100000
namespace Go.Proofs.Ytkbllhlmcfjcdaa.PFnChangeLeft
open Go.RowKit Go.Proofs.YtkbllhlmcfjcdaaW.PrintWords Go.Proofs.YtkbllhlmcfjcdaaW.PrintLast Go.Proofs.YtkbllhlmcfjcdaaW.PrintMore Go.Proofs.Ytkbllhlmcfjcdaa.Xmv
attribute [local go_sem] max2_int min2_int max_two min_two max_three min_three max_four min_four   -- for this text's walks alone
set_option linter.unusedVariables false
set_option linter.unusedSimpArgs false

/-! ### spec_cnFrom: function 54 -/
mutual
def spec_cnFrom.l0 : Nat → List Int → Int → List Bool → List Int → Int → Int → Option (List Bool)
 | 0, _, _, _, _, _, _ => none
 | k + 1, x1, x2, x7, x18, x19, x20 => if x20 < x19 then (if 0 ≤ x20 then (if x20 < (x18.length : Int) then (if 0 ≤ (wrap64 (x2 + 1)) then (if (wrap64 (x2 + 1) : Int).toNat ≤ 35184372088832 then ((some (List.replicate (wrap64 (x2 + 1) : Int).toNat 0 : List Int)).bind fun y334 => (spec_cnFrom.l1 k x1 x2 x7 x20 (rd x18 x20) y334 x18 x19 x20 (y334.length : Int) 0)) else (none)) else (none)) else (none)) else (none)) else (some x7)
def spec_cnFrom.l1 : Nat → List Int → Int → List Bool → Int → Int → List Int → List Int → Int → Int → Int → Int → Option (List Bool)
 | 0, _, _, _, _, _, _, _, _, _, _, _ => none
 | k + 1, x1, x2, x7, x8, x9, x10, x18, x19, x20, x29, x30 => if x30 < x29 then (if 0 ≤ x30 then (if x30 < (x7.length : Int) then (if rdOf false x7 x30 = true then (if x30 < (x10.length : Int) then (spec_cnFrom.l1 k x1 x2 x7 x8 x9 (x10.set (x30 : Int).toNat 0) x18 x19 x20 x29 (wrap64 (x30 + 1))) else (none)) else (if x30 ≥ x9 then (if 0 ≤ (wrap64 (x30 - x9)) then (if (wrap64 (x30 - x9)) < (x10.length : Int) then (if (rd x10 (wrap64 (x30 - x9))) ≥ 0 then (if 0 ≤ x8 then (if x8 < (x1.length : Int) then (if (rd x10 (wrap64 (x30 - x9))) < (rd x1 x8) then (if x30 < (x10.length : Int) then (spec_cnFrom.l1 k x1 x2 x7 x8 x9 (x10.set (x30 : Int).toNat (wrap64 ((rd x10 (wrap64 (x30 - x9))) + 1))) x18 x19 x20 x29 (wrap64 (x30 + 1))) else (none)) else (if x30 < (x10.length : Int) then (spec_cnFrom.l1 k x1 x2 x7 x8 x9 (x10.set (x30 : Int).toNat (-1)) x18 x19 x20 x29 (wrap64 (x30 + 1))) else (none))) else (none)) else (none)) else (if x30 < (x10.length : Int) then (spec_cnFrom.l1 k x1 x2 x7 x8 x9 (x10.set (x30 : Int).toNat (-1)) x18 x19 x20 x29 (wrap64 (x30 + 1))) else (none))) else (none)) else (none)) else (if x30 < (x10.length : Int) then (spec_cnFrom.l1 k x1 x2 x7 x8 x9 (x10.set (x30 : Int).toNat (-1)) x18 x19 x20 x29 (wrap64 (x30 + 1))) else (none)))) else (none)) else (none)) else (spec_cnFrom.l2 k x1 x2 x7 x10 x18 x19 x20 (x7.length : Int) 0)
def spec_cnFrom.l2 : Nat → List Int → Int → List Bool → List Int → List Int → Int → Int → Int → Int → Option (List Bool)
 | 0, _, _, _, _, _, _, _, _, _ => none
 | k + 1, x1, x2, x7, x10, x18, x19, x20, x82, x83 => if x83 < x82 then (if 0 ≤ x83 then (if x83 < (x10.length : Int) then (if x83 < (x7.length : Int) then (spec_cnFrom.l2 k x1 x2 (x7.set (x83 : Int).toNat (decide ((rd x10 x83) ≥ 0))) x10 x18 x19 x20 x82 (wrap64 (x83 + 1))) else (none)) else (none)) else (none)) else (spec_cnFrom.l0 k x1 x2 x7 x18 x19 (wrap64 (x20 + 1)))
end
def spec_cnFrom.f (k : Nat) (l0 : List Int) (l1 : List Int) (a2 : Int) : Option (List Bool) := if 0 ≤ (wrap64 (a2 + 1)) then (if (wrap64 (a2 + 1) : Int).toNat ≤ 281474976710656 then ((some (List.replicate (wrap64 (a2 + 1) : Int).toNat false : List Bool)).bind fun y329 => (if 0 < (y329.length : Int) then (spec_cnFrom.l0 k l1 a2 (y329.set (0 : Int).toNat true) l0 (l0.length : Int) 0) else (none))) else (none)) else (none)
theorem spec_cnFrom.calls (k : Nat) (A0 : Option Addr) (c0 : Nat) (l0 : List Int) (A1 : Option Addr) (c1 : Nat) (l1 : List Int) (a2 : Int) (r : List Bool) (w : World) (hr0 : Kd.C (Kd.int .i64) w A0 l0.length l0) (hc0 : l0.length ≤ c0) (hr1 : Kd.C (Kd.int .i64) w A1 l1.length l1) (hc1 : l1.length ≤ c1) (h : spec_cnFrom.f k l0 l1 a2 = some r) :
 Calls Try.prog 54 #[.slice A0 l0.length c0, .slice A1 l1.length c1, .int .i64 a2] w fun e w' => ∃ v0_ : Value, e = .returned (v0_) ∧ Kd.R Kd.bool 4 w' w.heap.size (fun _ => True) v0_ r ∧ Below w.heap.size w w' := by
 have HR0 := Aside0.mk hr0
 have HC0 := Aside0.mk hc0
 clear hr0 hc0
 have HR1 := Aside0.mk hr1
 have HC1 := Aside0.mk hc1
 clear hr1 hc1
 have HB := Aside0.mk (Below.refl w.heap.size w)
 have H := h; unfold spec_cnFrom.f at H
 clear h
 obtain ⟨ji4, hji4⟩ : ∃ j_ : Int, (wrap64 (a2 + 1)) = j_ := ⟨_, rfl⟩
 replace H : (if 0 ≤ (ji4) then (if (ji4 : Int).toNat ≤ 281474976710656 then ((some (List.replicate (ji4 : Int).toNat false : List Bool)).bind fun y329 => (if 0 < (y329.length : Int) then (spec_cnFrom.l0 k l1 a2 (y329.set (0 : Int).toNat true) l0 (l0.length : Int) 0) else (none))) else (none)) else (none)) = some r := by first | (rw [hji4] at H; exact H) | (simp only [hji4] at H ⊢; exact H)
 have hji4w : (IntKind.i64.wrap (a2 + 1)) = ji4 := (i64_w _).trans hji4
 replace H := Ic H; rcases H with ⟨c5, H⟩ | ⟨c5, H⟩
 · have c5b0 := eq_true c5
   have c5b1 := decide_eq_true c5
   clear c5
   replace H := Ip H; obtain ⟨c6, H⟩ := H
   have c6b0 := eq_true c6
   have c6b1 := decide_eq_true c6
   clear c6
   obtain ⟨y329, hy329⟩ : ∃ y_ : List Bool, y_ = (List.replicate (ji4 : Int).toNat false) := ⟨_, rfl⟩
   replace H : (if 0 < (y329.length : Int) then (spec_cnFrom.l0 k l1 a2 (y329.set (0 : Int).toNat true) l0 (l0.length : Int) 0) else (none)) = some r := by first | (rw [hy329]; with_reducible exact H) | (have H2_ := (Option.bind_some _ _).symm.trans H; rw [hy329]; with_reducible exact H2_) | (have H2_ := (Option.bind_some _ _).symm.trans H; with_reducible exact H2_) | with_reducible exact H | (rw [hy329]; exact H) | exact H
   have Ny329 := Aside0.mk hy329
   clear hy329
   replace H := Ip H; obtain ⟨c7, H⟩ := H
   have c7b0 := decide_eq_true c7
   have c7b1 : decide (0 < y329.length) = true := decide_eq_true (by omega)
   clear c7
   obtain ⟨y332, hy332⟩ : ∃ y_ : List Bool, y_ = (y329.set (0 : Int).toNat true) := ⟨_, rfl⟩
   replace H : (spec_cnFrom.l0 k l1 a2 y332 l0 (l0.length : Int) 0) = some r := by first | (rw [hy332]; with_reducible exact H) | (have H2_ := (Option.bind_some _ _).symm.trans H; rw [hy332]; with_reducible exact H2_) | (have H2_ := (Option.bind_some _ _).symm.trans H; with_reducible exact H2_) | with_reducible exact H | (rw [hy332]; exact H) | exact H
   have Ny332 := Aside0.mk hy332
   clear hy332
   have H' := Aside0.mk H
   clear H
   go_enter Try.func54, Try.ntmps54
   go_wp2_with (first | ((with_reducible refine gate_dst (N := 15) rfl ?_); refine Kd.R_make Kd.bool _ 4 rfl (N := 15) rfl 47 _ _ rfl ji4 rfl rfl Try.underlying47 (.bool false) 1 info4 rfl (by decide) (by omega) false (ok := fun _ => True) (okp := fun _ => True) rfl (fun _ hk => hk) trivial (Oa) (Nat.le_trans (Nat.mul_le_mul_right _ (Oa : ji4.toNat ≤ 281474976710656)) (by omega)) (Below.refl _ _) (Nat.le_refl _) ?_; intro v330 w9 ho10 hb hg_ hnew_; clear hg_ hnew_; (first | rw [← Ny329.out] at ho10 | (simp only [Int.reduceToNat] at ho10; rw [← Ny329.out] at ho10)); have HO331 := Aside0.mk (Kd.R_lower ho10 (below_size Ub)); replace HB := Aside0.mk (below_step Ub hb); clear hb ho10; have p8 : 0 ≤ (0 : Int) := (by omega); have q8 : (0 : Int) < ((y329.length : Int) : Int) := Oa; have qi8 : (0 < y329.length) = True := eq_true (by omega); obtain ⟨go8, co8, eo8, gb8, gl8, cl8, HG8⟩ := Kd.R_form HO331.out (by omega); (first | cases eo8 | (injection eo8 with ea_ en_ ec_; (first | subst ea_ | (injection ea_ with ea_; subst ea_)); subst ec_; clear en_)); have GB8 := Aside0.mk gb8; have GG8 := Aside0.mk HG8; clear gb8 gl8 HG8; obtain ⟨hx8_0, hf8_0⟩ := Kd.R_celln false HO331.out (0 : Int) p8 q8; (try rw [show ((0 : Int)).toNat = 0 from rfl] at hx8_0); (try simp only [Nat.reduceMul, Nat.zero_mul, Nat.zero_add, Nat.reduceAdd] at hx8_0); (try rw [show ((0 : Int)).toNat = 0 from rfl] at hf8_0); (try simp only [Nat.reduceMul, Nat.zero_mul, Nat.zero_add, Nat.reduceAdd] at hf8_0); replace p8 := eq_true p8; replace q8 := eq_true q8; obtain ⟨hy11_, hz11_⟩ := Kd.R_celln false HO331.out (0 : Int) (by omega) (Oa); (try simp only [Int.reduceToNat, Int.toNat_zero, Int.toNat_ofNat, Nat.reduceMul, Nat.zero_mul, Nat.zero_add] at hy11_ hz11_); (try rw [show ((0 : Int)).toNat = 0 from rfl] at hy11_); (try rw [show ((0 : Int)).toNat = 0 from rfl] at hz11_); have HP11 := Kd.R_putg HO331.out (0 : Int) true) | ((with_reducible refine gate_store (t := 4) (p := 17) rfl ?_); (try (rw [drewN_self w9]; generalize hq_ : World.drewN w9 _ = w9; replace HO331 := Aside0.mk (Kd.R_at hq_ HO331.out); replace HB := Aside0.mk (below_at hq_ HB.out); clear hq_; (try (obtain ⟨hy11_, hz11_⟩ := Kd.R_celln false HO331.out (0 : Int) (by omega) (Oa))); (try (try simp only [Int.reduceToNat, Int.toNat_zero, Int.toNat_ofNat, Nat.reduceMul, Nat.zero_mul, Nat.zero_add] at hy11_ hz11_)); (try (try rw [show ((0 : Int)).toNat = 0 from rfl] at hy11_)); (try (try rw [show ((0 : Int)).toNat = 0 from rfl] at hz11_)); (try (have HP11 := Kd.R_putg HO331.out (0 : Int) true)))); refine store_event (t := 4) (p := 17) (v := ?vo_w12) (w1 := (w9.setCell ⟨go8, (0 : Int).toNat, none⟩ (.bool true))) ?hg ?ho ?hn ?hr ?_; (case ho => rfl); (case hg => rfl); (case hn => rfl); (case hr => first | (go_simp; done) | (go_simp; rfl)); intro w12 hw; have hg : w9.grownBy w12 (some go8) := (by rw [hw]; exact HP11.2); have hp_ : Kd.R Kd.bool 4 w12 w.heap.size (fun _ => True) (.slice (some ⟨go8, 0, none⟩) y329.length co8) y332 := (by rw [hw, Ny332.out]; exact HP11.1); clear HP11; replace HO331 := Aside0.mk (hp_); replace HB := Aside0.mk ((by rw [hw]; exact below_set (HB.out) GB8.out : Below w.heap.size w w12)); clear hg hw hp_))
   repeat (go_quiet (first | ((with_reducible refine gate_dst (N := 15) rfl ?_); refine Kd.R_make Kd.bool _ 4 rfl (N := 15) rfl 47 _ _ rfl ji4 rfl rfl Try.underlying47 (.bool false) 1 info4 rfl (by decide) (by omega) false (ok := fun _ => True) (okp := fun _ => True) rfl (fun _ hk => hk) trivial (Oa) (Nat.le_trans (Nat.mul_le_mul_right _ (Oa : ji4.toNat ≤ 281474976710656)) (by omega)) (Below.refl _ _) (Nat.le_refl _) ?_; intro v330 w9 ho10 hb hg_ hnew_; clear hg_ hnew_; (first | rw [← Ny329.out] at ho10 | (simp only [Int.reduceToNat] at ho10; rw [← Ny329.out] at ho10)); have HO331 := Aside0.mk (Kd.R_lower ho10 (below_size Ub)); replace HB := Aside0.mk (below_step Ub hb); clear hb ho10; have p8 : 0 ≤ (0 : Int) := (by omega); have q8 : (0 : Int) < ((y329.length : Int) : Int) := Oa; have qi8 : (0 < y329.length) = True := eq_true (by omega); obtain ⟨go8, co8, eo8, gb8, gl8, cl8, HG8⟩ := Kd.R_form HO331.out (by omega); (first | cases eo8 | (injection eo8 with ea_ en_ ec_; (first | subst ea_ | (injection ea_ with ea_; subst ea_)); subst ec_; clear en_)); have GB8 := Aside0.mk gb8; have GG8 := Aside0.mk HG8; clear gb8 gl8 HG8; obtain ⟨hx8_0, hf8_0⟩ := Kd.R_celln false HO331.out (0 : Int) p8 q8; (try rw [show ((0 : Int)).toNat = 0 from rfl] at hx8_0); (try simp only [Nat.reduceMul, Nat.zero_mul, Nat.zero_add, Nat.reduceAdd] at hx8_0); (try rw [show ((0 : Int)).toNat = 0 from rfl] at hf8_0); (try simp only [Nat.reduceMul, Nat.zero_mul, Nat.zero_add, Nat.reduceAdd] at hf8_0); replace p8 := eq_true p8; replace q8 := eq_true q8; obtain ⟨hy11_, hz11_⟩ := Kd.R_celln false HO331.out (0 : Int) (by omega) (Oa); (try simp only [Int.reduceToNat, Int.toNat_zero, Int.toNat_ofNat, Nat.reduceMul, Nat.zero_mul, Nat.zero_add] at hy11_ hz11_); (try rw [show ((0 : Int)).toNat = 0 from rfl] at hy11_); (try rw [show ((0 : Int)).toNat = 0 from rfl] at hz11_); have HP11 := Kd.R_putg HO331.out (0 : Int) true) | ((with_reducible refine gate_store (t := 4) (p := 17) rfl ?_); (try (rw [drewN_self w9]; generalize hq_ : World.drewN w9 _ = w9; replace HO331 := Aside0.mk (Kd.R_at hq_ HO331.out); replace HB := Aside0.mk (below_at hq_ HB.out); clear hq_; (try (obtain ⟨hy11_, hz11_⟩ := Kd.R_celln false HO331.out (0 : Int) (by omega) (Oa))); (try (try simp only [Int.reduceToNat, Int.toNat_zero, Int.toNat_ofNat, Nat.reduceMul, Nat.zero_mul, Nat.zero_add] at hy11_ hz11_)); (try (try rw [show ((0 : Int)).toNat = 0 from rfl] at hy11_)); (try (try rw [show ((0 : Int)).toNat = 0 from rfl] at hz11_)); (try (have HP11 := Kd.R_putg HO331.out (0 : Int) true)))); refine store_event (t := 4) (p := 17) (v := ?vo_w12) (w1 := (w9.setCell ⟨go8, (0 : Int).toNat, none⟩ (.bool true))) ?hg ?ho ?hn ?hr ?_; (case ho => rfl); (case hg => rfl); (case hn => rfl); (case hr => first | (go_simp; done) | (go_simp; rfl)); intro w12 hw; have hg : w9.grownBy w12 (some go8) := (by rw [hw]; exact HP11.2); have hp_ : Kd.R Kd.bool 4 w12 w.heap.size (fun _ => True) (.slice (some ⟨go8, 0, none⟩) y329.length co8) y332 := (by rw [hw, Ny332.out]; exact HP11.1); clear HP11; replace HO331 := Aside0.mk (hp_); replace HB := Aside0.mk ((by rw [hw]; exact below_set (HB.out) GB8.out : Below w.heap.size w w12)); clear hg hw hp_)); try go_wp2_with (first | ((with_reducible refine gate_dst (N := 15) rfl ?_); refine Kd.R_make Kd.bool _ 4 rfl (N := 15) rfl 47 _ _ rfl ji4 rfl rfl Try.underlying47 (.bool false) 1 info4 rfl (by decide) (by omega) false (ok := fun _ => True) (okp := fun _ => True) rfl (fun _ hk => hk) trivial (Oa) (Nat.le_trans (Nat.mul_le_mul_right _ (Oa : ji4.toNat ≤ 281474976710656)) (by omega)) (Below.refl _ _) (Nat.le_refl _) ?_; intro v330 w9 ho10 hb hg_ hnew_; clear hg_ hnew_; (first | rw [← Ny329.out] at ho10 | (simp only [Int.reduceToNat] at ho10; rw [← Ny329.out] at ho10)); have HO331 := Aside0.mk (Kd.R_lower ho10 (below_size Ub)); replace HB := Aside0.mk (below_step Ub hb); clear hb ho10; have p8 : 0 ≤ (0 : Int) := (by omega); have q8 : (0 : Int) < ((y329.length : Int) : Int) := Oa; have qi8 : (0 < y329.length) = True := eq_true (by omega); obtain ⟨go8, co8, eo8, gb8, gl8, cl8, HG8⟩ := Kd.R_form HO331.out (by omega); (first | cases eo8 | (injection eo8 with ea_ en_ ec_; (first | subst ea_ | (injection ea_ with ea_; subst ea_)); subst ec_; clear en_)); have GB8 := Aside0.mk gb8; have GG8 := Aside0.mk HG8; clear gb8 gl8 HG8; obtain ⟨hx8_0, hf8_0⟩ := Kd.R_celln false HO331.out (0 : Int) p8 q8; (try rw [show ((0 : Int)).toNat = 0 from rfl] at hx8_0); (try simp only [Nat.reduceMul, Nat.zero_mul, Nat.zero_add, Nat.reduceAdd] at hx8_0); (try rw [show ((0 : Int)).toNat = 0 from rfl] at hf8_0); (try simp only [Nat.reduceMul, Nat.zero_mul, Nat.zero_add, Nat.reduceAdd] at hf8_0); replace p8 := eq_true p8; replace q8 := eq_true q8; obtain ⟨hy11_, hz11_⟩ := Kd.R_celln false HO331.out (0 : Int) (by omega) (Oa); (try simp only [Int.reduceToNat, Int.toNat_zero, Int.toNat_ofNat, Nat.reduceMul, Nat.zero_mul, Nat.zero_add] at hy11_ hz11_); (try rw [show ((0 : Int)).toNat = 0 from rfl] at hy11_); (try rw [show ((0 : Int)).toNat = 0 from rfl] at hz11_); have HP11 := Kd.R_putg HO331.out (0 : Int) true) | ((with_reducible refine gate_store (t := 4) (p := 17) rfl ?_); (try (rw [drewN_self w9]; generalize hq_ : World.drewN w9 _ = w9; replace HO331 := Aside0.mk (Kd.R_at hq_ HO331.out); replace HB := Aside0.mk (below_at hq_ HB.out); clear hq_; (try (obtain ⟨hy11_, hz11_⟩ := Kd.R_celln false HO331.out (0 : Int) (by omega) (Oa))); (try (try simp only [Int.reduceToNat, Int.toNat_zero, Int.toNat_ofNat, Nat.reduceMul, Nat.zero_mul, Nat.zero_add] at hy11_ hz11_)); (try (try rw [show ((0 : Int)).toNat = 0 from rfl] at hy11_)); (try (try rw [show ((0 : Int)).toNat = 0 from rfl] at hz11_)); (try (have HP11 := Kd.R_putg HO331.out (0 : Int) true)))); refine store_event (t := 4) (p := 17) (v := ?vo_w12) (w1 := (w9.setCell ⟨go8, (0 : Int).toNat, none⟩ (.bool true))) ?hg ?ho ?hn ?hr ?_; (case ho => rfl); (case hg => rfl); (case hn => rfl); (case hr => first | (go_simp; done) | (go_simp; rfl)); intro w12 hw; have hg : w9.grownBy w12 (some go8) := (by rw [hw]; exact HP11.2); have hp_ : Kd.R Kd.bool 4 w12 w.heap.size (fun _ => True) (.slice (some ⟨go8, 0, none⟩) y329.length co8) y332 := (by rw [hw, Ny332.out]; exact HP11.1); clear HP11; replace HO331 := Aside0.mk (hp_); replace HB := Aside0.mk ((by rw [hw]; exact below_set (HB.out) GB8.out : Below w.heap.size w w12)); clear hg hw hp_)))
   go_loopg [20] k (fun kq v20 w' => ∃ (x7_1 : List Bool) (x20_1 : Int), v20 = .int .i64 x20_1 ∧ Aside0 (spec_cnFrom.l0 kq l1 a2 x7_1 l0 (l0.length : Int) x20_1 = some r) ∧ Aside0 (kq ≤ k) ∧ Aside0 (Kd.R Kd.bool 4 w' w.heap.size (fun _ => True) (.slice (some ⟨go8, 0, none⟩) y329.length co8) x7_1) ∧ Aside0 (Below w.heap.size w w'))
   case atStart => exact ⟨(y332), (0), Rs, H', ⟨Nat.le_refl _⟩, ⟨Rm HO331.out⟩, ⟨Ub⟩⟩
   case round =>
    clear H'
    try clear c1
    try clear c5
    try clear c5b0
    try clear c5b1
    try clear c6
    try clear c6b0
    try clear c6b1
    try clear c7
    try clear c7b0
    try clear c7b1
    try clear p8
    try clear q8
    try clear qi8
    try clear hx8_0
    try clear p8
    try clear q8
    obtain ⟨x7_1, x20_1, rfl, HA, HK1, HO_7, HB⟩ := hrel
    have hl7_1 := (Kd.R_reads' HO_7.out).1
    rw [hl7_1] at HO_7
    (try simp only [hl7_1])
    cases gk with
    | zero => exact absurd HA.out (by simp [spec_cnFrom.l0])
    | succ k1 =>
     have H := HA.out
     clear HA
     simp only [spec_cnFrom.l0] at H
     replace H := Ic H; rcases H with ⟨c13, H⟩ | ⟨c13, H⟩
     · have c13b0 := decide_eq_true c13
       clear c13
       replace H := Ip H; obtain ⟨c14, H⟩ := H
       have c14b0 := decide_eq_true c14
       clear c14
       replace H := Ip H; obtain ⟨c15, H⟩ := H
       have c15b0 := decide_eq_true c15
       clear c15
       obtain ⟨ji16, hji16⟩ : ∃ j_ : Int, (wrap64 (a2 + 1)) = j_ := ⟨_, rfl⟩
       replace H : (if 0 ≤ (ji16) then (if (ji16 : Int).toNat ≤ 35184372088832 then ((some (List.replicate (ji16 : Int).toNat 0 : List Int)).bind fun y334 => (spec_cnFrom.l1 k1 l1 a2 x7_1 x20_1 (rd l0 x20_1) y334 l0 (l0.length : Int) x20_1 (y334.length : Int) 0)) else (none)) else (none)) = some r := by first | (rw [hji16] at H; exact H) | (simp only [hji16] at H ⊢; exact H)
       have hji16w : (IntKind.i64.wrap (a2 + 1)) = ji16 := (i64_w _).trans hji16
       obtain rfl : ji16 = ji4 := hji16.symm.trans hji4
       replace H := Ip H; obtain ⟨c17, H⟩ := H
       have c17b0 := eq_true c17
       have c17b1 := decide_eq_true c17
       clear c17
       replace H := Ip H; obtain ⟨c18, H⟩ := H
       have c18b0 := eq_true c18
       have c18b1 := decide_eq_true c18
       clear c18
       obtain ⟨y334, hy334⟩ : ∃ y_ : List Int, y_ = (List.replicate (ji16 : Int).toNat 0) := ⟨_, rfl⟩
       replace H : (spec_cnFrom.l1 k1 l1 a2 x7_1 x20_1 (rd l0 x20_1) y334 l0 (l0.length : Int) x20_1 (y334.length : Int) 0) = some r := by first | (rw [hy334]; with_reducible exact H) | (have H2_ := (Option.bind_some _ _).symm.trans H; rw [hy334]; with_reducible exact H2_) | (have H2_ := (Option.bind_some _ _).symm.trans H; with_reducible exact H2_) | with_reducible exact H | (rw [hy334]; exact H) | exact H
       have Ny334 := Aside0.mk hy334
       clear hy334
       have H' := Aside0.mk H
       clear H
       obtain ⟨p333, q333, ad333, e333, hx333_0⟩ := Ai HR0.out x20_1
       cases e333
       replace hx333_0 := (HB.out.cell (World.block_lt_of_cell? w _ hx333_0)).trans hx333_0
       go_wp2_with (first | ((with_reducible refine gate_dst (N := 27) rfl ?_); refine Kd.R_make (Kd.int .i64) _ 3 rfl (N := 27) rfl 24 _ _ rfl ji16 rfl rfl Try.underlying24 (.int .i64 0) 8 info3 rfl (by decide) (by omega) 0 (ok := fun _ => True) (okp := fun _ => True) rfl (fun _ hk => hk) trivial (Oa) (Nat.le_trans (Nat.mul_le_mul_right _ (Oa : ji16.toNat ≤ 35184372088832)) (by omega)) (Below.refl _ _) (Nat.le_refl _) ?_; intro v335 w19 ho20 hb hg_ hnew_; clear hg_ hnew_; (first | rw [← Ny334.out] at ho20 | (simp only [Int.reduceToNat] at ho20; rw [← Ny334.out] at ho20)); replace HO_7 := Aside0.mk (Kd.R_below (Rm HO_7.out) hb); have HO336 := Aside0.mk (Kd.R_lower ho20 (below_size Ub)); replace HB := Aside0.mk (below_step Ub hb); clear hb ho20; obtain ⟨Ao21, co21, eo21⟩ := Kd.R_slice HO336.out; subst eo21))
       repeat (go_quiet (first | ((with_reducible refine gate_dst (N := 27) rfl ?_); refine Kd.R_make (Kd.int .i64) _ 3 rfl (N := 27) rfl 24 _ _ rfl ji16 rfl rfl Try.underlying24 (.int .i64 0) 8 info3 rfl (by decide) (by omega) 0 (ok := fun _ => True) (okp := fun _ => True) rfl (fun _ hk => hk) trivial (Oa) (Nat.le_trans (Nat.mul_le_mul_right _ (Oa : ji16.toNat ≤ 35184372088832)) (by omega)) (Below.refl _ _) (Nat.le_refl _) ?_; intro v335 w19 ho20 hb hg_ hnew_; clear hg_ hnew_; (first | rw [← Ny334.out] at ho20 | (simp only [Int.reduceToNat] at ho20; rw [← Ny334.out] at ho20)); replace HO_7 := Aside0.mk (Kd.R_below (Rm HO_7.out) hb); have HO336 := Aside0.mk (Kd.R_lower ho20 (below_size Ub)); replace HB := Aside0.mk (below_step Ub hb); clear hb ho20; obtain ⟨Ao21, co21, eo21⟩ := Kd.R_slice HO336.out; subst eo21)); try go_wp2_with (first | ((with_reducible refine gate_dst (N := 27) rfl ?_); refine Kd.R_make (Kd.int .i64) _ 3 rfl (N := 27) rfl 24 _ _ rfl ji16 rfl rfl Try.underlying24 (.int .i64 0) 8 info3 rfl (by decide) (by omega) 0 (ok := fun _ => True) (okp := fun _ => True) rfl (fun _ hk => hk) trivial (Oa) (Nat.le_trans (Nat.mul_le_mul_right _ (Oa : ji16.toNat ≤ 35184372088832)) (by omega)) (Below.refl _ _) (Nat.le_refl _) ?_; intro v335 w19 ho20 hb hg_ hnew_; clear hg_ hnew_; (first | rw [← Ny334.out] at ho20 | (simp only [Int.reduceToNat] at ho20; rw [← Ny334.out] at ho20)); replace HO_7 := Aside0.mk (Kd.R_below (Rm HO_7.out) hb); have HO336 := Aside0.mk (Kd.R_lower ho20 (below_size Ub)); replace HB := Aside0.mk (below_step Ub hb); clear hb ho20; obtain ⟨Ao21, co21, eo21⟩ := Kd.R_slice HO336.out; subst eo21)))
       go_loopg [30] k1 (fun kq v30 w' => ∃ (x10_2 : List Int) (x30_2 : Int), v30 = .int .i64 x30_2 ∧ Aside0 (spec_cnFrom.l1 kq l1 a2 x7_1 x20_1 (rd l0 x20_1) x10_2 l0 (l0.length : Int) x20_1 (y334.length : Int) x30_2 = some r) ∧ Aside0 (kq ≤ k1) ∧ Aside0 (Kd.R Kd.bool 4 w' w.heap.size (fun _ => True) (.slice (some ⟨go8, 0, none⟩) x7_1.length co8) x7_1) ∧ Aside0 (Kd.R (Kd.int .i64) 3 w' w.heap.size (fun _ => True) (.slice Ao21 y334.length co21) x10_2) ∧ Aside0 (Below w.heap.size w w'))
       case atStart => exact ⟨(y334), (0), Rs, H', ⟨Nat.le_refl _⟩, ⟨by (try simp only [hl7_1]); (with_reducible repeat (first | apply Kd.R_alloc | apply Kd.R_drewN | apply Kd.R_drew)); exact HO_7.out⟩, ⟨by (try simp only [hl7_1]); (with_reducible repeat (first | apply Kd.R_alloc | apply Kd.R_drewN | apply Kd.R_drew)); exact HO336.out⟩, ⟨Ub⟩⟩
       case round =>
        clear H'
        try clear c1
        try clear c5
        try clear c5b0
        try clear c5b1
        try clear c6
        try clear c6b0
        try clear c6b1
        try clear c7
        try clear c7b0
        try clear c7b1
        try clear p8
        try clear q8
        try clear qi8
        try clear c13
        try clear c13b0
        try clear c14
        try clear c14b0
        try clear c15
        try clear c15b0
        try clear c17
        try clear c17b0
        try clear c17b1
        try clear c18
        try clear c18b0
        try clear c18b1
        try clear hx333_0
        try clear hx8_0
        try clear p333
        try clear p8
        try clear q333
        try clear q8
        obtain ⟨x10_2, x30_2, rfl, HA, HK2, HO_7, HO_10, HB⟩ := hrel
        have hl10_2 := (Kd.R_reads' HO_10.out).1
        rw [hl10_2] at HO_10
        (try simp only [hl10_2])
        (try simp only [hl10_2] at HO_7)
        cases gk with
        | zero => exact absurd HA.out (by simp [spec_cnFrom.l1])
        | succ k2 =>
         have H := HA.out
         clear HA
         simp only [spec_cnFrom.l1] at H
         replace H := Ic H; rcases H with ⟨c22, H⟩ | ⟨c22, H⟩
         · have c22b0 := decide_eq_true c22
           clear c22
           replace H := Ip H; obtain ⟨c23, H⟩ := H
           have c23b0 := decide_eq_true c23
           clear c23
           replace H := Ip H; obtain ⟨c24, H⟩ := H
           have c24b0 := decide_eq_true c24
           clear c24
           obtain ⟨bq25, hbq25⟩ : ∃ b_ : Bool, b_ = (rdOf false x7_1 x30_2) := ⟨_, rfl⟩
           replace H : (if bq25 = true then (if x30_2 < (x10_2.length : Int) then (spec_cnFrom.l1 k2 l1 a2 x7_1 x20_1 (rd l0 x20_1) (x10_2.set (x30_2 : Int).toNat 0) l0 (l0.length : Int) x20_1 (y334.length : Int) (wrap64 (x30_2 + 1))) else (none)) else (if x30_2 ≥ (rd l0 x20_1) then (if 0 ≤ (wrap64 (x30_2 - (rd l0 x20_1))) then (if (wrap64 (x30_2 - (rd l0 x20_1))) < (x10_2.length : Int) then (if (rd x10_2 (wrap64 (x30_2 - (rd l0 x20_1)))) ≥ 0 then (if 0 ≤ x20_1 then (if x20_1 < (l1.length : Int) then (if (rd x10_2 (wrap64 (x30_2 - (rd l0 x20_1)))) < (rd l1 x20_1) then (if x30_2 < (x10_2.length : Int) then (spec_cnFrom.l1 k2 l1 a2 x7_1 x20_1 (rd l0 x20_1) (x10_2.set (x30_2 : Int).toNat (wrap64 ((rd x10_2 (wrap64 (x30_2 - (rd l0 x20_1)))) + 1))) l0 (l0.length : Int) x20_1 (y334.length : Int) (wrap64 (x30_2 + 1))) else (none)) else (if x30_2 < (x10_2.length : Int) then (spec_cnFrom.l1 k2 l1 a2 x7_1 x20_1 (rd l0 x20_1) (x10_2.set (x30_2 : Int).toNat (-1)) l0 (l0.length : Int) x20_1 (y334.length : Int) (wrap64 (x30_2 + 1))) else (none))) else (none)) else (none)) else (if x30_2 < (x10_2.length : Int) then (spec_cnFrom.l1 k2 l1 a2 x7_1 x20_1 (rd l0 x20_1) (x10_2.set (x30_2 : Int).toNat (-1)) l0 (l0.length : Int) x20_1 (y334.length : Int) (wrap64 (x30_2 + 1))) else (none))) else (none)) else (none)) else (if x30_2 < (x10_2.length : Int) then (spec_cnFrom.l1 k2 l1 a2 x7_1 x20_1 (rd l0 x20_1) (x10_2.set (x30_2 : Int).toNat (-1)) l0 (l0.length : Int) x20_1 (y334.length : Int) (wrap64 (x30_2 + 1))) else (none)))) = some r := by rw [← hbq25] at H; exact H
           have Nbq25 := Aside0.mk hbq25
           clear hbq25
           by_cases c26 : bq25 = true
           · subst c26
             have H1 : (if x30_2 < (x10_2.length : Int) then (spec_cnFrom.l1 k2 l1 a2 x7_1 x20_1 (rd l0 x20_1) (x10_2.set (x30_2 : Int).toNat 0) l0 (l0.length : Int) x20_1 (y334.length : Int) (wrap64 (x30_2 + 1))) else (none)) = some r := by rw [if_pos rfl] at H; exact H
             clear H
             have H := H1
             clear H1
             replace H := Ip H; obtain ⟨c27, H⟩ := H
             have c27b0 := decide_eq_true c27
             clear c27
             obtain ⟨y338, hy338⟩ : ∃ y_ : List Int, y_ = (x10_2.set (x30_2 : Int).toNat 0) := ⟨_, rfl⟩
             replace H : (spec_cnFrom.l1 k2 l1 a2 x7_1 x20_1 (rd l0 x20_1) y338 l0 (l0.length : Int) x20_1 (y334.length : Int) (wrap64 (x30_2 + 1))) = some r := by first | (rw [hy338]; with_reducible exact H) | (have H2_ := (Option.bind_some _ _).symm.trans H; rw [hy338]; with_reducible exact H2_) | (have H2_ := (Option.bind_some _ _).symm.trans H; with_reducible exact H2_) | with_reducible exact H | (rw [hy338]; exact H) | exact H
             have Ny338 := Aside0.mk hy338
             clear hy338
             have H' := Aside0.mk H
             clear H
             have p337 : 0 ≤ (x30_2 : Int) := Oa
             have q337 : x30_2 < (x7_1.length : Int) := Oa
             obtain ⟨ad337, e337, hx337_0⟩ := Kd.at_bool (Kd.R_reads' HO_7.out).2.2 x30_2 p337 q337
             (try rw [← Nbq25.out] at hx337_0)
             obtain rfl : (⟨go8, 0, none⟩ : Addr) = ad337 := (by injection e337)
             (first | simp only [add_plain] at hx337_0 | simp only [add_at] at hx337_0 | simp only [Addr.add, Nat.zero_add] at hx337_0 | skip)
             replace p337 := eq_true p337
             replace q337 := eq_true q337
             have p28 : 0 ≤ (x30_2 : Int) := Oa
             have q28 : (x30_2 : Int) < ((x10_2.length : Int) : Int) := Oa
             obtain ⟨go28, co28, eo28, gb28, gl28, cl28, HG28⟩ := Kd.R_form HO_10.out (by omega)
             (first | cases eo28 | (injection eo28 with ea_ en_ ec_; (first | subst ea_ | (injection ea_ with ea_; subst ea_)); subst ec_; clear en_))
             have GB28 := Aside0.mk gb28
             have GG28 := Aside0.mk HG28
             clear gb28 gl28 HG28
             obtain ⟨hx28_0, hf28_0⟩ := Kd.R_celln 0 HO_10.out (x30_2 : Int) p28 q28
             replace p28 := eq_true p28
             replace q28 := eq_true q28
             have HP29 := Kd.R_putg HO_10.out (x30_2 : Int) 0
             go_wp2_with (first | ((with_reducible refine gate_store (t := 3) (p := 43) rfl ?_); (try (rw [drewN_self wr]; generalize hq_ : World.drewN wr _ = wr; replace HO_7 := Aside0.mk (Kd.R_at hq_ HO_7.out); replace HO_10 := Aside0.mk (Kd.R_at hq_ HO_10.out); replace HB := Aside0.mk (below_at hq_ HB.out); clear hq_; (try (have HP29 := Kd.R_putg HO_10.out (x30_2 : Int) 0)))); refine store_event (t := 3) (p := 43) (v := ?vo_w30) (w1 := (wr.setCell ⟨go28, (x30_2 : Int).toNat, none⟩ (.int .i64 0))) ?hg ?ho ?hn ?hr ?_; (case ho => rfl); (case hg => rfl); (case hn => rfl); (case hr => first | (go_simp; done) | (go_simp; rfl)); intro w30 hw; have hg : wr.grownBy w30 (some go28) := (by rw [hw]; exact HP29.2); have hp_ : Kd.R (Kd.int .i64) 3 w30 w.heap.size (fun _ => True) (.slice (some ⟨go28, 0, none⟩) x10_2.length co21) y338 := (by rw [hw, Ny338.out]; exact HP29.1); clear HP29; replace HO_7 := Aside0.mk (Kd.R_over' (v := (.slice (some ⟨go28, 0, none⟩) x10_2.length co21)) (Rm HO_7.out) (Kd.R_typed HO_10.out) (by decide) hg); replace HO_10 := Aside0.mk (hp_); replace HB := Aside0.mk ((by rw [hw]; exact below_set (HB.out) GB28.out : Below w.heap.size w w30)); clear hg hw hp_))
             repeat (go_quiet (first | ((with_reducible refine gate_store (t := 3) (p := 43) rfl ?_); (try (rw [drewN_self wr]; generalize hq_ : World.drewN wr _ = wr; replace HO_7 := Aside0.mk (Kd.R_at hq_ HO_7.out); replace HO_10 := Aside0.mk (Kd.R_at hq_ HO_10.out); replace HB := Aside0.mk (below_at hq_ HB.out); clear hq_; (try (have HP29 := Kd.R_putg HO_10.out (x30_2 : Int) 0)))); refine store_event (t := 3) (p := 43) (v := ?vo_w30) (w1 := (wr.setCell ⟨go28, (x30_2 : Int).toNat, none⟩ (.int .i64 0))) ?hg ?ho ?hn ?hr ?_; (case ho => rfl); (case hg => rfl); (case hn => rfl); (case hr => first | (go_simp; done) | (go_simp; rfl)); intro w30 hw; have hg : wr.grownBy w30 (some go28) := (by rw [hw]; exact HP29.2); have hp_ : Kd.R (Kd.int .i64) 3 w30 w.heap.size (fun _ => True) (.slice (some ⟨go28, 0, none⟩) x10_2.length co21) y338 := (by rw [hw, Ny338.out]; exact HP29.1); clear HP29; replace HO_7 := Aside0.mk (Kd.R_over' (v := (.slice (some ⟨go28, 0, none⟩) x10_2.length co21)) (Rm HO_7.out) (Kd.R_typed HO_10.out) (by decide) hg); replace HO_10 := Aside0.mk (hp_); replace HB := Aside0.mk ((by rw [hw]; exact below_set (HB.out) GB28.out : Below w.heap.size w w30)); clear hg hw hp_)); try go_wp2_with (first | ((with_reducible refine gate_store (t := 3) (p := 43) rfl ?_); (try (rw [drewN_self wr]; generalize hq_ : World.drewN wr _ = wr; replace HO_7 := Aside0.mk (Kd.R_at hq_ HO_7.out); replace HO_10 := Aside0.mk (Kd.R_at hq_ HO_10.out); replace HB := Aside0.mk (below_at hq_ HB.out); clear hq_; (try (have HP29 := Kd.R_putg HO_10.out (x30_2 : Int) 0)))); refine store_event (t := 3) (p := 43) (v := ?vo_w30) (w1 := (wr.setCell ⟨go28, (x30_2 : Int).toNat, none⟩ (.int .i64 0))) ?hg ?ho ?hn ?hr ?_; (case ho => rfl); (case hg => rfl); (case hn => rfl); (case hr => first | (go_simp; done) | (go_simp; rfl)); intro w30 hw; have hg : wr.grownBy w30 (some go28) := (by rw [hw]; exact HP29.2); have hp_ : Kd.R (Kd.int .i64) 3 w30 w.heap.size (fun _ => True) (.slice (some ⟨go28, 0, none⟩) x10_2.length co21) y338 := (by rw [hw, Ny338.out]; exact HP29.1); clear HP29; replace HO_7 := Aside0.mk (Kd.R_over' (v := (.slice (some ⟨go28, 0, none⟩) x10_2.length co21)) (Rm HO_7.out) (Kd.R_typed HO_10.out) (by decide) hg); replace HO_10 := Aside0.mk (hp_); replace HB := Aside0.mk ((by rw [hw]; exact below_set (HB.out) GB28.out : Below w.heap.size w w30)); clear hg hw hp_)))
             (try (generalize hq_ : World.drewN wr _ = wq; replace HO_7 := Aside0.mk (Kd.R_at hq_ HO_7.out); replace HO_10 := Aside0.mk (Kd.R_at hq_ HO_10.out); replace HB := Aside0.mk (below_at hq_ HB.out); clear hq_; obtain ⟨w30, hw⟩ : ∃ w_, w_ = wq.setCell ⟨go28, (x30_2 : Int).toNat, none⟩ (.int .i64 0) := ⟨_, rfl⟩; rw [← hw]; have HP29 := Kd.R_putg HO_10.out (x30_2 : Int) 0; have hg : wq.grownBy w30 (some go28) := (by rw [hw]; exact HP29.2); have hp_ : Kd.R (Kd.int .i64) 3 w30 w.heap.size (fun _ => True) (.slice (some ⟨go28, 0, none⟩) x10_2.length co21) y338 := (by rw [hw, Ny338.out]; exact HP29.1); clear HP29; replace HO_7 := Aside0.mk (Kd.R_over' (v := (.slice (some ⟨go28, 0, none⟩) x10_2.length co21)) (Rm HO_7.out) (Kd.R_typed HO_10.out) (by decide) hg); replace HO_10 := Aside0.mk (hp_); replace HB := Aside0.mk ((by rw [hw]; exact below_set (HB.out) GB28.out : Below w.heap.size w w30)); clear hg hw hp_)); try go_wp2_with (first | ((with_reducible refine gate_store (t := 3) (p := 43) rfl ?_); (try (rw [drewN_self wr]; generalize hq_ : World.drewN wr _ = wr; replace HO_7 := Aside0.mk (Kd.R_at hq_ HO_7.out); replace HO_10 := Aside0.mk (Kd.R_at hq_ HO_10.out); replace HB := Aside0.mk (below_at hq_ HB.out); clear hq_; (try (have HP29 := Kd.R_putg HO_10.out (x30_2 : Int) 0)))); refine store_event (t := 3) (p := 43) (v := ?vo_w30) (w1 := (wr.setCell ⟨go28, (x30_2 : Int).toNat, none⟩ (.int .i64 0))) ?hg ?ho ?hn ?hr ?_; (case ho => rfl); (case hg => rfl); (case hn => rfl); (case hr => first | (go_simp; done) | (go_simp; rfl)); intro w30 hw; have hg : wq.grownBy w30 (some go28) := (by rw [hw]; exact HP29.2); have hp_ : Kd.R (Kd.int .i64) 3 w30 w.heap.size (fun _ => True) (.slice (some ⟨go28, 0, none⟩) x10_2.length co21) y338 := (by rw [hw, Ny338.out]; exact HP29.1); clear HP29; replace HO_7 := Aside0.mk (Kd.R_over' (v := (.slice (some ⟨go28, 0, none⟩) x10_2.length co21)) (Rm HO_7.out) (Kd.R_typed HO_10.out) (by decide) hg); replace HO_10 := Aside0.mk (hp_); replace HB := Aside0.mk ((by rw [hw]; exact below_set (HB.out) GB28.out : Below w.heap.size w w30)); clear hg hw hp_))
             (try simp only [← hl10_2])
             go_roundg k2
             case measure => have := HK1.out; have := HK2.out; omega
             case rel => exact ⟨(y338), (wrap64 (x30_2 + 1)), Rs, H', ⟨by have := HK1.out; have := HK2.out; omega⟩, ⟨by (try simp only [hl7_1]); (try simp only [hl10_2]); (with_reducible repeat (first | apply Kd.R_alloc | apply Kd.R_drewN | apply Kd.R_drew)); exact HO_7.out⟩, ⟨by (try simp only [hl7_1]); (try simp only [hl10_2]); (with_reducible repeat (first | apply Kd.R_alloc | apply Kd.R_drewN | apply Kd.R_drew)); exact HO_10.out⟩, ⟨Ub⟩⟩
           replace c26 := Bool.eq_false_iff.mpr c26
           subst c26
           have H1 : (if x30_2 ≥ (rd l0 x20_1) then (if 0 ≤ (wrap64 (x30_2 - (rd l0 x20_1))) then (if (wrap64 (x30_2 - (rd l0 x20_1))) < (x10_2.length : Int) then (if (rd x10_2 (wrap64 (x30_2 - (rd l0 x20_1)))) ≥ 0 then (if 0 ≤ x20_1 then (if x20_1 < (l1.length : Int) then (if (rd x10_2 (wrap64 (x30_2 - (rd l0 x20_1)))) < (rd l1 x20_1) then (if x30_2 < (x10_2.length : Int) then (spec_cnFrom.l1 k2 l1 a2 x7_1 x20_1 (rd l0 x20_1) (x10_2.set (x30_2 : Int).toNat (wrap64 ((rd x10_2 (wrap64 (x30_2 - (rd l0 x20_1)))) + 1))) l0 (l0.length : Int) x20_1 (y334.length : Int) (wrap64 (x30_2 + 1))) else (none)) else (if x30_2 < (x10_2.length : Int) then (spec_cnFrom.l1 k2 l1 a2 x7_1 x20_1 (rd l0 x20_1) (x10_2.set (x30_2 : Int).toNat (-1)) l0 (l0.length : Int) x20_1 (y334.length : Int) (wrap64 (x30_2 + 1))) else (none))) else (none)) else (none)) else (if x30_2 < (x10_2.length : Int) then (spec_cnFrom.l1 k2 l1 a2 x7_1 x20_1 (rd l0 x20_1) (x10_2.set (x30_2 : Int).toNat (-1)) l0 (l0.length : Int) x20_1 (y334.length : Int) (wrap64 (x30_2 + 1))) else (none))) else (none)) else (none)) else (if x30_2 < (x10_2.length : Int) then (spec_cnFrom.l1 k2 l1 a2 x7_1 x20_1 (rd l0 x20_1) (x10_2.set (x30_2 : Int).toNat (-1)) l0 (l0.length : Int) x20_1 (y334.length : Int) (wrap64 (x30_2 + 1))) else (none))) = some r := by rw [if_neg (show ¬ (false = true) by decide)] at H; exact H
           clear H
           have H := H1
           clear H1
           replace H := Ic H; rcases H with ⟨c31, H⟩ | ⟨c31, H⟩
           · have c31b0 : decide ((rd l0 x20_1) ≤ x30_2) = true := decide_eq_true c31
             clear c31
             obtain ⟨ji32, hji32⟩ : ∃ j_ : Int, (wrap64 (x30_2 - (rd l0 x20_1))) = j_ := ⟨_, rfl⟩
             replace H : (if 0 ≤ (ji32) then (if (ji32) < (x10_2.length : Int) then (if (rd x10_2 (ji32)) ≥ 0 then (if 0 ≤ x20_1 then (if x20_1 < (l1.length : Int) then (if (rd x10_2 (ji32)) < (rd l1 x20_1) then (if x30_2 < (x10_2.length : Int) then (spec_cnFrom.l1 k2 l1 a2 x7_1 x20_1 (rd l0 x20_1) (x10_2.set (x30_2 : Int).toNat (wrap64 ((rd x10_2 (ji32)) + 1))) l0 (l0.length : Int) x20_1 (y334.length : Int) (wrap64 (x30_2 + 1))) else (none)) else (if x30_2 < (x10_2.length : Int) then (spec_cnFrom.l1 k2 l1 a2 x7_1 x20_1 (rd l0 x20_1) (x10_2.set (x30_2 : Int).toNat (-1)) l0 (l0.length : Int) x20_1 (y334.length : Int) (wrap64 (x30_2 + 1))) else (none))) else (none)) else (none)) else (if x30_2 < (x10_2.length : Int) then (spec_cnFrom.l1 k2 l1 a2 x7_1 x20_1 (rd l0 x20_1) (x10_2.set (x30_2 : Int).toNat (-1)) l0 (l0.length : Int) x20_1 (y334.length : Int) (wrap64 (x30_2 + 1))) else (none))) else (none)) else (none)) = some r := by first | (rw [hji32] at H; exact H) | (simp only [hji32] at H ⊢; exact H)
             have hji32w : (IntKind.i64.wrap (x30_2 - (rd l0 x20_1))) = ji32 := (i64_w _).trans hji32
             replace H := Ip H; obtain ⟨c33, H⟩ := H
             have c33b0 := decide_eq_true c33
             clear c33
             replace H := Ip H; obtain ⟨c34, H⟩ := H
             have c34b0 := decide_eq_true c34
             clear c34
             replace H := Ic H; rcases H with ⟨c35, H⟩ | ⟨c35, H⟩
             · have c35b0 : decide (0 ≤ (rd x10_2 (ji32))) = true := decide_eq_true c35
               clear c35
               replace H := Ip H; obtain ⟨c36, H⟩ := H
               have c36b0 := decide_eq_true c36
               clear c36
               replace H := Ip H; obtain ⟨c37, H⟩ := H
               have c37b0 := decide_eq_true c37
               clear c37
               replace H := Ic H; rcases H with ⟨c38, H⟩ | ⟨c38, H⟩
               · have c38b0 := decide_eq_true c38
                 clear c38
                 replace H := Ip H; obtain ⟨c39, H⟩ := H
                 have c39b0 := decide_eq_true c39
                 clear c39
                 obtain ⟨y343, hy343⟩ : ∃ y_ : List Int, y_ = (x10_2.set (x30_2 : Int).toNat (wrap64 ((rd x10_2 (ji32)) + 1))) := ⟨_, rfl⟩
                 replace H : (spec_cnFrom.l1 k2 l1 a2 x7_1 x20_1 (rd l0 x20_1) y343 l0 (l0.length : Int) x20_1 (y334.length : Int) (wrap64 (x30_2 + 1))) = some r := by first | (rw [hy343]; with_reducible exact H) | (have H2_ := (Option.bind_some _ _).symm.trans H; rw [hy343]; with_reducible exact H2_) | (have H2_ := (Option.bind_some _ _).symm.trans H; with_reducible exact H2_) | with_reducible exact H | (rw [hy343]; exact H) | exact H
                 have Ny343 := Aside0.mk hy343
                 clear hy343
                 have H' := Aside0.mk H
                 clear H
                 have p337 : 0 ≤ (x30_2 : Int) := Oa
                 have q337 : x30_2 < (x7_1.length : Int) := Oa
                 obtain ⟨ad337, e337, hx337_0⟩ := Kd.at_bool (Kd.R_reads' HO_7.out).2.2 x30_2 p337 q337
                 (try rw [← Nbq25.out] at hx337_0)
                 obtain rfl : (⟨go8, 0, none⟩ : Addr) = ad337 := (by injection e337)
                 (first | simp only [add_plain] at hx337_0 | simp only [add_at] at hx337_0 | simp only [Addr.add, Nat.zero_add] at hx337_0 | skip)
                 replace p337 := eq_true p337
                 replace q337 := eq_true q337
                 obtain ⟨p339, q339, ad339, e339, hx339_0⟩ := Ai (Kd.R_reads' HO_10.out).2.2 (ji32)
                 cases e339
                 have p340 : 0 ≤ ((ji32) : Int) := Oa
                 have q340 : (ji32) < (x10_2.length : Int) := Oa
                 obtain ⟨ad340, e340, hx340_0⟩ := Kd.at_int (Kd.R_reads' HO_10.out).2.2 (ji32) p340 q340
                 obtain rfl : ad339 = ad340 := (by injection e340)
                 replace p340 := eq_true p340
                 replace q340 := eq_true q340
                 obtain ⟨p341, q341, ad341, e341, hx341_0⟩ := Ai HR1.out x20_1
                 cases e341
                 replace hx341_0 := (HB.out.cell (World.block_lt_of_cell? w _ hx341_0)).trans hx341_0
                 have p342 : 0 ≤ ((ji32) : Int) := Oa
                 have q342 : (ji32) < (x10_2.length : Int) := Oa
                 obtain ⟨ad342, e342, hx342_0⟩ := Kd.at_int (Kd.R_reads' HO_10.out).2.2 (ji32) p342 q342
                 obtain rfl : ad339 = ad342 := (by injection e342)
                 replace p342 := eq_true p342
                 replace q342 := eq_true q342
                 have p40 : 0 ≤ (x30_2 : Int) := Oa
                 have q40 : (x30_2 : Int) < ((x10_2.length : Int) : Int) := Oa
                 obtain ⟨go40, co40, eo40, gb40, gl40, cl40, HG40⟩ := Kd.R_form HO_10.out (by omega)
                 (first | cases eo40 | (injection eo40 with ea_ en_ ec_; (first | subst ea_ | (injection ea_ with ea_; subst ea_)); subst ec_; clear en_))
                 have GB40 := Aside0.mk gb40
                 have GG40 := Aside0.mk HG40
                 clear gb40 gl40 HG40
                 (first | simp only [add_plain] at hx339_0 | skip)
                 (first | simp only [add_plain] at hx340_0 | skip)
                 (first | simp only [add_plain] at hx342_0 | skip)
                 obtain ⟨hx40_0, hf40_0⟩ := Kd.R_celln 0 HO_10.out (x30_2 : Int) p40 q40
                 replace p40 := eq_true p40
                 replace q40 := eq_true q40
                 have HP41 := Kd.R_putg HO_10.out (x30_2 : Int) (wrap64 ((rd x10_2 (ji32)) + 1))
                 go_wp2_with (first | ((with_reducible refine gate_store (t := 3) (p := 79) rfl ?_); (try (rw [drewN_self wr]; generalize hq_ : World.drewN wr _ = wr; replace HO_7 := Aside0.mk (Kd.R_at hq_ HO_7.out); replace HO_10 := Aside0.mk (Kd.R_at hq_ HO_10.out); replace HB := Aside0.mk (below_at hq_ HB.out); clear hq_; (try (have HP41 := Kd.R_putg HO_10.out (x30_2 : Int) (wrap64 ((rd x10_2 (ji32)) + 1)))))); refine store_event (t := 3) (p := 79) (v := ?vo_w42) (w1 := (wr.setCell ⟨go40, (x30_2 : Int).toNat, none⟩ (.int .i64 (wrap64 ((rd x10_2 (ji32)) + 1))))) ?hg ?ho ?hn ?hr ?_; (case ho => rfl); (case hg => rfl); (case hn => rfl); (case hr => first | (go_simp; done) | (go_simp; rfl)); intro w42 hw; have hg : wr.grownBy w42 (some go40) := (by rw [hw]; exact HP41.2); have hp_ : Kd.R (Kd.int .i64) 3 w42 w.heap.size (fun _ => True) (.slice (some ⟨go40, 0, none⟩) x10_2.length co21) y343 := (by rw [hw, Ny343.out]; exact HP41.1); clear HP41; replace HO_7 := Aside0.mk (Kd.R_over' (v := (.slice (some ⟨go40, 0, none⟩) x10_2.length co21)) (Rm HO_7.out) (Kd.R_typed HO_10.out) (by decide) hg); replace HO_10 := Aside0.mk (hp_); replace HB := Aside0.mk ((by rw [hw]; exact below_set (HB.out) GB40.out : Below w.heap.size w w42)); clear hg hw hp_))
                 repeat (go_quiet (first | ((with_reducible refine gate_store (t := 3) (p := 79) rfl ?_); (try (rw [drewN_self wr]; generalize hq_ : World.drewN wr _ = wr; replace HO_7 := Aside0.mk (Kd.R_at hq_ HO_7.out); replace HO_10 := Aside0.mk (Kd.R_at hq_ HO_10.out); replace HB := Aside0.mk (below_at hq_ HB.out); clear hq_; (try (have HP41 := Kd.R_putg HO_10.out (x30_2 : Int) (wrap64 ((rd x10_2 (ji32)) + 1)))))); refine store_event (t := 3) (p := 79) (v := ?vo_w42) (w1 := (wr.setCell ⟨go40, (x30_2 : Int).toNat, none⟩ (.int .i64 (wrap64 ((rd x10_2 (ji32)) + 1))))) ?hg ?ho ?hn ?hr ?_; (case ho => rfl); (case hg => rfl); (case hn => rfl); (case hr => first | (go_simp; done) | (go_simp; rfl)); intro w42 hw; have hg : wr.grownBy w42 (some go40) := (by rw [hw]; exact HP41.2); have hp_ : Kd.R (Kd.int .i64) 3 w42 w.heap.size (fun _ => True) (.slice (some ⟨go40, 0, none⟩) x10_2.length co21) y343 := (by rw [hw, Ny343.out]; exact HP41.1); clear HP41; replace HO_7 := Aside0.mk (Kd.R_over' (v := (.slice (some ⟨go40, 0, none⟩) x10_2.length co21)) (Rm HO_7.out) (Kd.R_typed HO_10.out) (by decide) hg); replace HO_10 := Aside0.mk (hp_); replace HB := Aside0.mk ((by rw [hw]; exact below_set (HB.out) GB40.out : Below w.heap.size w w42)); clear hg hw hp_)); try go_wp2_with (first | ((with_reducible refine gate_store (t := 3) (p := 79) rfl ?_); (try (rw [drewN_self wr]; generalize hq_ : World.drewN wr _ = wr; replace HO_7 := Aside0.mk (Kd.R_at hq_ HO_7.out); replace HO_10 := Aside0.mk (Kd.R_at hq_ HO_10.out); replace HB := Aside0.mk (below_at hq_ HB.out); clear hq_; (try (have HP41 := Kd.R_putg HO_10.out (x30_2 : Int) (wrap64 ((rd x10_2 (ji32)) + 1)))))); refine store_event (t := 3) (p := 79) (v := ?vo_w42) (w1 := (wr.setCell ⟨go40, (x30_2 : Int).toNat, none⟩ (.int .i64 (wrap64 ((rd x10_2 (ji32)) + 1))))) ?hg ?ho ?hn ?hr ?_; (case ho => rfl); (case hg => rfl); (case hn => rfl); (case hr => first | (go_simp; done) | (go_simp; rfl)); intro w42 hw; have hg : wr.grownBy w42 (some go40) := (by rw [hw]; exact HP41.2); have hp_ : Kd.R (Kd.int .i64) 3 w42 w.heap.size (fun _ => True) (.slice (some ⟨go40, 0, none⟩) x10_2.length co21) y343 := (by rw [hw, Ny343.out]; exact HP41.1); clear HP41; replace HO_7 := Aside0.mk (Kd.R_over' (v := (.slice (some ⟨go40, 0, none⟩) x10_2.length co21)) (Rm HO_7.out) (Kd.R_typed HO_10.out) (by decide) hg); replace HO_10 := Aside0.mk (hp_); replace HB := Aside0.mk ((by rw [hw]; exact below_set (HB.out) GB40.out : Below w.heap.size w w42)); clear hg hw hp_)))
                 (try (generalize hq_ : World.drewN wr _ = wq; replace HO_7 := Aside0.mk (Kd.R_at hq_ HO_7.out); replace HO_10 := Aside0.mk (Kd.R_at hq_ HO_10.out); replace HB := Aside0.mk (below_at hq_ HB.out); clear hq_; obtain ⟨w42, hw⟩ : ∃ w_, w_ = wq.setCell ⟨go40, (x30_2 : Int).toNat, none⟩ (.int .i64 (wrap64 ((rd x10_2 (ji32)) + 1))) := ⟨_, rfl⟩; rw [← hw]; have HP41 := Kd.R_putg HO_10.out (x30_2 : Int) (wrap64 ((rd x10_2 (ji32)) + 1)); have hg : wq.grownBy w42 (some go40) := (by rw [hw]; exact HP41.2); have hp_ : Kd.R (Kd.int .i64) 3 w42 w.heap.size (fun _ => True) (.slice (some ⟨go40, 0, none⟩) x10_2.length co21) y343 := (by rw [hw, Ny343.out]; exact HP41.1); clear HP41; replace HO_7 := Aside0.mk (Kd.R_over' (v := (.slice (some ⟨go40, 0, none⟩) x10_2.length co21)) (Rm HO_7.out) (Kd.R_typed HO_10.out) (by decide) hg); replace HO_10 := Aside0.mk (hp_); replace HB := Aside0.mk ((by rw [hw]; exact below_set (HB.out) GB40.out : Below w.heap.size w w42)); clear hg hw hp_)); try go_wp2_with (first | ((with_reducible refine gate_store (t := 3) (p := 79) rfl ?_); (try (rw [drewN_self wr]; generalize hq_ : World.drewN wr _ = wr; replace HO_7 := Aside0.mk (Kd.R_at hq_ HO_7.out); replace HO_10 := Aside0.mk (Kd.R_at hq_ HO_10.out); replace HB := Aside0.mk (below_at hq_ HB.out); clear hq_; (try (have HP41 := Kd.R_putg HO_10.out (x30_2 : Int) (wrap64 ((rd x10_2 (ji32)) + 1)))))); refine store_event (t := 3) (p := 79) (v := ?vo_w42) (w1 := (wr.setCell ⟨go40, (x30_2 : Int).toNat, none⟩ (.int .i64 (wrap64 ((rd x10_2 (ji32)) + 1))))) ?hg ?ho ?hn ?hr ?_; (case ho => rfl); (case hg => rfl); (case hn => rfl); (case hr => first | (go_simp; done) | (go_simp; rfl)); intro w42 hw; have hg : wq.grownBy w42 (some go40) := (by rw [hw]; exact HP41.2); have hp_ : Kd.R (Kd.int .i64) 3 w42 w.heap.size (fun _ => True) (.slice (some ⟨go40, 0, none⟩) x10_2.length co21) y343 := (by rw [hw, Ny343.out]; exact HP41.1); clear HP41; replace HO_7 := Aside0.mk (Kd.R_over' (v := (.slice (some ⟨go40, 0, none⟩) x10_2.length co21)) (Rm HO_7.out) (Kd.R_typed HO_10.out) (by decide) hg); replace HO_10 := Aside0.mk (hp_); replace HB := Aside0.mk ((by rw [hw]; exact below_set (HB.out) GB40.out : Below w.heap.size w w42)); clear hg hw hp_))
                 (try simp only [← hl10_2])
                 go_roundg k2
                 case measure => have := HK1.out; have := HK2.out; omega
                 case rel => exact ⟨(y343), (wrap64 (x30_2 + 1)), Rs, H', ⟨by have := HK1.out; have := HK2.out; omega⟩, ⟨by (try simp only [hl7_1]); (try simp only [hl10_2]); (with_reducible repeat (first | apply Kd.R_alloc | apply Kd.R_drewN | apply Kd.R_drew)); exact HO_7.out⟩, ⟨by (try simp only [hl7_1]); (try simp only [hl10_2]); (with_reducible repeat (first | apply Kd.R_alloc | apply Kd.R_drewN | apply Kd.R_drew)); exact HO_10.out⟩, ⟨Ub⟩⟩
               have c38b0 := decide_eq_false c38
               (try rw [hl10_2] at c38b0)
               clear c38
               replace H := Ip H; obtain ⟨c43, H⟩ := H
               have c43b0 := decide_eq_true c43
               clear c43
               obtain ⟨y344, hy344⟩ : ∃ y_ : List Int, y_ = (x10_2.set (x30_2 : Int).toNat (-1)) := ⟨_, rfl⟩
               replace H : (spec_cnFrom.l1 k2 l1 a2 x7_1 x20_1 (rd l0 x20_1) y344 l0 (l0.length : Int) x20_1 (y334.length : Int) (wrap64 (x30_2 + 1))) = some r := by first | (rw [hy344]; with_reducible exact H) | (have H2_ := (Option.bind_some _ _).symm.trans H; rw [hy344]; with_reducible exact H2_) | (have H2_ := (Option.bind_some _ _).symm.trans H; with_reducible exact H2_) | with_reducible exact H | (rw [hy344]; exact H) | exact H
               have Ny344 := Aside0.mk hy344
               clear hy344
               have H' := Aside0.mk H
               clear H
               have p337 : 0 ≤ (x30_2 : Int) := Oa
               have q337 : x30_2 < (x7_1.length : Int) := Oa
               obtain ⟨ad337, e337, hx337_0⟩ := Kd.at_bool (Kd.R_reads' HO_7.out).2.2 x30_2 p337 q337
               (try rw [← Nbq25.out] at hx337_0)
               obtain rfl : (⟨go8, 0, none⟩ : Addr) = ad337 := (by injection e337)
               (first | simp only [add_plain] at hx337_0 | simp only [add_at] at hx337_0 | simp only [Addr.add, Nat.zero_add] at hx337_0 | skip)
               replace p337 := eq_true p337
               replace q337 := eq_true q337
               obtain ⟨p339, q339, ad339, e339, hx339_0⟩ := Ai (Kd.R_reads' HO_10.out).2.2 (ji32)
               cases e339
               have p340 : 0 ≤ ((ji32) : Int) := Oa
               have q340 : (ji32) < (x10_2.length : Int) := Oa
               obtain ⟨ad340, e340, hx340_0⟩ := Kd.at_int (Kd.R_reads' HO_10.out).2.2 (ji32) p340 q340
               obtain rfl : ad339 = ad340 := (by injection e340)
               replace p340 := eq_true p340
               replace q340 := eq_true q340
               obtain ⟨p341, q341, ad341, e341, hx341_0⟩ := Ai HR1.out x20_1
               cases e341
               replace hx341_0 := (HB.out.cell (World.block_lt_of_cell? w _ hx341_0)).trans hx341_0
               have p44 : 0 ≤ (x30_2 : Int) := Oa
               have q44 : (x30_2 : Int) < ((x10_2.length : Int) : Int) := Oa
               obtain ⟨go44, co44, eo44, gb44, gl44, cl44, HG44⟩ := Kd.R_form HO_10.out (by omega)
               (first | cases eo44 | (injection eo44 with ea_ en_ ec_; (first | subst ea_ | (injection ea_ with ea_; subst ea_)); subst ec_; clear en_))
               have GB44 := Aside0.mk gb44
               have GG44 := Aside0.mk HG44
               clear gb44 gl44 HG44
               (first | simp only [add_plain] at hx339_0 | skip)
               (first | simp only [add_plain] at hx340_0 | skip)
               obtain ⟨hx44_0, hf44_0⟩ := Kd.R_celln 0 HO_10.out (x30_2 : Int) p44 q44
               replace p44 := eq_true p44
               replace q44 := eq_true q44
               have HP45 := Kd.R_putg HO_10.out (x30_2 : Int) (-1)
               go_wp2_with (first | ((with_reducible refine gate_store (t := 3) (p := 35) rfl ?_); (try (rw [drewN_self wr]; generalize hq_ : World.drewN wr _ = wr; replace HO_7 := Aside0.mk (Kd.R_at hq_ HO_7.out); replace HO_10 := Aside0.mk (Kd.R_at hq_ HO_10.out); replace HB := Aside0.mk (below_at hq_ HB.out); clear hq_; (try (have HP45 := Kd.R_putg HO_10.out (x30_2 : Int) (-1))))); refine store_event (t := 3) (p := 35) (v := ?vo_w46) (w1 := (wr.setCell ⟨go44, (x30_2 : Int).toNat, none⟩ (.int .i64 (-1)))) ?hg ?ho ?hn ?hr ?_; (case ho => rfl); (case hg => rfl); (case hn => rfl); (case hr => first | (go_simp; done) | (go_simp; rfl)); intro w46 hw; have hg : wr.grownBy w46 (some go44) := (by rw [hw]; exact HP45.2); have hp_ : Kd.R (Kd.int .i64) 3 w46 w.heap.size (fun _ => True) (.slice (some ⟨go44, 0, none⟩) x10_2.length co21) y344 := (by rw [hw, Ny344.out]; exact HP45.1); clear HP45; replace HO_7 := Aside0.mk (Kd.R_over' (v := (.slice (some ⟨go44, 0, none⟩) x10_2.length co21)) (Rm HO_7.out) (Kd.R_typed HO_10.out) (by decide) hg); replace HO_10 := Aside0.mk (hp_); replace HB := Aside0.mk ((by rw [hw]; exact below_set (HB.out) GB44.out : Below w.heap.size w w46)); clear hg hw hp_))
               repeat (go_quiet (first | ((with_reducible refine gate_store (t := 3) (p := 35) rfl ?_); (try (rw [drewN_self wr]; generalize hq_ : World.drewN wr _ = wr; replace HO_7 := Aside0.mk (Kd.R_at hq_ HO_7.out); replace HO_10 := Aside0.mk (Kd.R_at hq_ HO_10.out); replace HB := Aside0.mk (below_at hq_ HB.out); clear hq_; (try (have HP45 := Kd.R_putg HO_10.out (x30_2 : Int) (-1))))); refine store_event (t := 3) (p := 35) (v := ?vo_w46) (w1 := (wr.setCell ⟨go44, (x30_2 : Int).toNat, none⟩ (.int .i64 (-1)))) ?hg ?ho ?hn ?hr ?_; (case ho => rfl); (case hg => rfl); (case hn => rfl); (case hr => first | (go_simp; done) | (go_simp; rfl)); intro w46 hw; have hg : wr.grownBy w46 (some go44) := (by rw [hw]; exact HP45.2); have hp_ : Kd.R (Kd.int .i64) 3 w46 w.heap.size (fun _ => True) (.slice (some ⟨go44, 0, none⟩) x10_2.length co21) y344 := (by rw [hw, Ny344.out]; exact HP45.1); clear HP45; replace HO_7 := Aside0.mk (Kd.R_over' (v := (.slice (some ⟨go44, 0, none⟩) x10_2.length co21)) (Rm HO_7.out) (Kd.R_typed HO_10.out) (by decide) hg); replace HO_10 := Aside0.mk (hp_); replace HB := Aside0.mk ((by rw [hw]; exact below_set (HB.out) GB44.out : Below w.heap.size w w46)); clear hg hw hp_)); try go_wp2_with (first | ((with_reducible refine gate_store (t := 3) (p := 35) rfl ?_); (try (rw [drewN_self wr]; generalize hq_ : World.drewN wr _ = wr; replace HO_7 := Aside0.mk (Kd.R_at hq_ HO_7.out); replace HO_10 := Aside0.mk (Kd.R_at hq_ HO_10.out); replace HB := Aside0.mk (below_at hq_ HB.out); clear hq_; (try (have HP45 := Kd.R_putg HO_10.out (x30_2 : Int) (-1))))); refine store_event (t := 3) (p := 35) (v := ?vo_w46) (w1 := (wr.setCell ⟨go44, (x30_2 : Int).toNat, none⟩ (.int .i64 (-1)))) ?hg ?ho ?hn ?hr ?_; (case ho => rfl); (case hg => rfl); (case hn => rfl); (case hr => first | (go_simp; done) | (go_simp; rfl)); intro w46 hw; have hg : wr.grownBy w46 (some go44) := (by rw [hw]; exact HP45.2); have hp_ : Kd.R (Kd.int .i64) 3 w46 w.heap.size (fun _ => True) (.slice (some ⟨go44, 0, none⟩) x10_2.length co21) y344 := (by rw [hw, Ny344.out]; exact HP45.1); clear HP45; replace HO_7 := Aside0.mk (Kd.R_over' (v := (.slice (some ⟨go44, 0, none⟩) x10_2.length co21)) (Rm HO_7.out) (Kd.R_typed HO_10.out) (by decide) hg); replace HO_10 := Aside0.mk (hp_); replace HB := Aside0.mk ((by rw [hw]; exact below_set (HB.out) GB44.out : Below w.heap.size w w46)); clear hg hw hp_)))
               (try (generalize hq_ : World.drewN wr _ = wq; replace HO_7 := Aside0.mk (Kd.R_at hq_ HO_7.out); replace HO_10 := Aside0.mk (Kd.R_at hq_ HO_10.out); replace HB := Aside0.mk (below_at hq_ HB.out); clear hq_; obtain ⟨w46, hw⟩ : ∃ w_, w_ = wq.setCell ⟨go44, (x30_2 : Int).toNat, none⟩ (.int .i64 (-1)) := ⟨_, rfl⟩; rw [← hw]; have HP45 := Kd.R_putg HO_10.out (x30_2 : Int) (-1); have hg : wq.grownBy w46 (some go44) := (by rw [hw]; exact HP45.2); have hp_ : Kd.R (Kd.int .i64) 3 w46 w.heap.size (fun _ => True) (.slice (some ⟨go44, 0, none⟩) x10_2.length co21) y344 := (by rw [hw, Ny344.out]; exact HP45.1); clear HP45; replace HO_7 := Aside0.mk (Kd.R_over' (v := (.slice (some ⟨go44, 0, none⟩) x10_2.length co21)) (Rm HO_7.out) (Kd.R_typed HO_10.out) (by decide) hg); replace HO_10 := Aside0.mk (hp_); replace HB := Aside0.mk ((by rw [hw]; exact below_set (HB.out) GB44.out : Below w.heap.size w w46)); clear hg hw hp_)); try go_wp2_with (first | ((with_reducible refine gate_store (t := 3) (p := 35) rfl ?_); (try (rw [drewN_self wr]; generalize hq_ : World.drewN wr _ = wr; replace HO_7 := Aside0.mk (Kd.R_at hq_ HO_7.out); replace HO_10 := Aside0.mk (Kd.R_at hq_ HO_10.out); replace HB := Aside0.mk (below_at hq_ HB.out); clear hq_; (try (have HP45 := Kd.R_putg HO_10.out (x30_2 : Int) (-1))))); refine store_event (t := 3) (p := 35) (v := ?vo_w46) (w1 := (wr.setCell ⟨go44, (x30_2 : Int).toNat, none⟩ (.int .i64 (-1)))) ?hg ?ho ?hn ?hr ?_; (case ho => rfl); (case hg => rfl); (case hn => rfl); (case hr => first | (go_simp; done) | (go_simp; rfl)); intro w46 hw; have hg : wq.grownBy w46 (some go44) := (by rw [hw]; exact HP45.2); have hp_ : Kd.R (Kd.int .i64) 3 w46 w.heap.size (fun _ => True) (.slice (some ⟨go44, 0, none⟩) x10_2.length co21) y344 := (by rw [hw, Ny344.out]; exact HP45.1); clear HP45; replace HO_7 := Aside0.mk (Kd.R_over' (v := (.slice (some ⟨go44, 0, none⟩) x10_2.length co21)) (Rm HO_7.out) (Kd.R_typed HO_10.out) (by decide) hg); replace HO_10 := Aside0.mk (hp_); replace HB := Aside0.mk ((by rw [hw]; exact below_set (HB.out) GB44.out : Below w.heap.size w w46)); clear hg hw hp_))
               (try simp only [← hl10_2])
               go_roundg k2
               case measure => have := HK1.out; have := HK2.out; omega
               case rel => exact ⟨(y344), (wrap64 (x30_2 + 1)), Rs, H', ⟨by have := HK1.out; have := HK2.out; omega⟩, ⟨by (try simp only [hl7_1]); (try simp only [hl10_2]); (with_reducible repeat (first | apply Kd.R_alloc | apply Kd.R_drewN | apply Kd.R_drew)); exact HO_7.out⟩, ⟨by (try simp only [hl7_1]); (try simp only [hl10_2]); (with_reducible repeat (first | apply Kd.R_alloc | apply Kd.R_drewN | apply Kd.R_drew)); exact HO_10.out⟩, ⟨Ub⟩⟩
             have c35b0 : decide (0 ≤ (rd x10_2 (ji32))) = false := decide_eq_false c35
             clear c35
             replace H := Ip H; obtain ⟨c47, H⟩ := H
             have c47b0 := decide_eq_true c47
             clear c47
             obtain ⟨y345, hy345⟩ : ∃ y_ : List Int, y_ = (x10_2.set (x30_2 : Int).toNat (-1)) := ⟨_, rfl⟩
             replace H : (spec_cnFrom.l1 k2 l1 a2 x7_1 x20_1 (rd l0 x20_1) y345 l0 (l0.length : Int) x20_1 (y334.length : Int) (wrap64 (x30_2 + 1))) = some r := by first | (rw [hy345]; with_reducible exact H) | (have H2_ := (Option.bind_some _ _).symm.trans H; rw [hy345]; with_reducible exact H2_) | (have H2_ := (Option.bind_some _ _).symm.trans H; with_reducible exact H2_) | with_reducible exact H | (rw [hy345]; exact H) | exact H
             have Ny345 := Aside0.mk hy345
             clear hy345
             have H' := Aside0.mk H
             clear H
             have p337 : 0 ≤ (x30_2 : Int) := Oa
             have q337 : x30_2 < (x7_1.length : Int) := Oa
             obtain ⟨ad337, e337, hx337_0⟩ := Kd.at_bool (Kd.R_reads' HO_7.out).2.2 x30_2 p337 q337
             (try rw [← Nbq25.out] at hx337_0)
             obtain rfl : (⟨go8, 0, none⟩ : Addr) = ad337 := (by injection e337)
             (first | simp only [add_plain] at hx337_0 | simp only [add_at] at hx337_0 | simp only [Addr.add, Nat.zero_add] at hx337_0 | skip)
             replace p337 := eq_true p337
             replace q337 := eq_true q337
             obtain ⟨p339, q339, ad339, e339, hx339_0⟩ := Ai (Kd.R_reads' HO_10.out).2.2 (ji32)
             cases e339
             have p48 : 0 ≤ (x30_2 : Int) := Oa
             have q48 : (x30_2 : Int) < ((x10_2.length : Int) : Int) := Oa
             obtain ⟨go48, co48, eo48, gb48, gl48, cl48, HG48⟩ := Kd.R_form HO_10.out (by omega)
             (first | cases eo48 | (injection eo48 with ea_ en_ ec_; (first | subst ea_ | (injection ea_ with ea_; subst ea_)); subst ec_; clear en_))
             have GB48 := Aside0.mk gb48
             have GG48 := Aside0.mk HG48
             clear gb48 gl48 HG48
             (first | simp only [add_plain] at hx339_0 | skip)
             obtain ⟨hx48_0, hf48_0⟩ := Kd.R_celln 0 HO_10.out (x30_2 : Int) p48 q48
             replace p48 := eq_true p48
             replace q48 := eq_true q48
             have HP49 := Kd.R_putg HO_10.out (x30_2 : Int) (-1)
             go_wp2_with (first | ((with_reducible refine gate_store (t := 3) (p := 35) rfl ?_); (try (rw [drewN_self wr]; generalize hq_ : World.drewN wr _ = wr; replace HO_7 := Aside0.mk (Kd.R_at hq_ HO_7.out); replace HO_10 := Aside0.mk (Kd.R_at hq_ HO_10.out); replace HB := Aside0.mk (below_at hq_ HB.out); clear hq_; (try (have HP49 := Kd.R_putg HO_10.out (x30_2 : Int) (-1))))); refine store_event (t := 3) (p := 35) (v := ?vo_w50) (w1 := (wr.setCell ⟨go48, (x30_2 : Int).toNat, none⟩ (.int .i64 (-1)))) ?hg ?ho ?hn ?hr ?_; (case ho => rfl); (case hg => rfl); (case hn => rfl); (case hr => first | (go_simp; done) | (go_simp; rfl)); intro w50 hw; have hg : wr.grownBy w50 (some go48) := (by rw [hw]; exact HP49.2); have hp_ : Kd.R (Kd.int .i64) 3 w50 w.heap.size (fun _ => True) (.slice (some ⟨go48, 0, none⟩) x10_2.length co21) y345 := (by rw [hw, Ny345.out]; exact HP49.1); clear HP49; replace HO_7 := Aside0.mk (Kd.R_over' (v := (.slice (some ⟨go48, 0, none⟩) x10_2.length co21)) (Rm HO_7.out) (Kd.R_typed HO_10.out) (by decide) hg); replace HO_10 := Aside0.mk (hp_); replace HB := Aside0.mk ((by rw [hw]; exact below_set (HB.out) GB48.out : Below w.heap.size w w50)); clear hg hw hp_))
             repeat (go_quiet (first | ((with_reducible refine gate_store (t := 3) (p := 35) rfl ?_); (try (rw [drewN_self wr]; generalize hq_ : World.drewN wr _ = wr; replace HO_7 := Aside0.mk (Kd.R_at hq_ HO_7.out); replace HO_10 := Aside0.mk (Kd.R_at hq_ HO_10.out); replace HB := Aside0.mk (below_at hq_ HB.out); clear hq_; (try (have HP49 := Kd.R_putg HO_10.out (x30_2 : Int) (-1))))); refine store_event (t := 3) (p := 35) (v := ?vo_w50) (w1 := (wr.setCell ⟨go48, (x30_2 : Int).toNat, none⟩ (.int .i64 (-1)))) ?hg ?ho ?hn ?hr ?_; (case ho => rfl); (case hg => rfl); (case hn => rfl); (case hr => first | (go_simp; done) | (go_simp; rfl)); intro w50 hw; have hg : wr.grownBy w50 (some go48) := (by rw [hw]; exact HP49.2); have hp_ : Kd.R (Kd.int .i64) 3 w50 w.heap.size (fun _ => True) (.slice (some ⟨go48, 0, none⟩) x10_2.length co21) y345 := (by rw [hw, Ny345.out]; exact HP49.1); clear HP49; replace HO_7 := Aside0.mk (Kd.R_over' (v := (.slice (some ⟨go48, 0, none⟩) x10_2.length co21)) (Rm HO_7.out) (Kd.R_typed HO_10.out) (by decide) hg); replace HO_10 := Aside0.mk (hp_); replace HB := Aside0.mk ((by rw [hw]; exact below_set (HB.out) GB48.out : Below w.heap.size w w50)); clear hg hw hp_)); try go_wp2_with (first | ((with_reducible refine gate_store (t := 3) (p := 35) rfl ?_); (try (rw [drewN_self wr]; generalize hq_ : World.drewN wr _ = wr; replace HO_7 := Aside0.mk (Kd.R_at hq_ HO_7.out); replace HO_10 := Aside0.mk (Kd.R_at hq_ HO_10.out); replace HB := Aside0.mk (below_at hq_ HB.out); clear hq_; (try (have HP49 := Kd.R_putg HO_10.out (x30_2 : Int) (-1))))); refine store_event (t := 3) (p := 35) (v := ?vo_w50) (w1 := (wr.setCell ⟨go48, (x30_2 : Int).toNat, none⟩ (.int .i64 (-1)))) ?hg ?ho ?hn ?hr ?_; (case ho => rfl); (case hg => rfl); (case hn => rfl); (case hr => first | (go_simp; done) | (go_simp; rfl)); intro w50 hw; have hg : wr.grownBy w50 (some go48) := (by rw [hw]; exact HP49.2); have hp_ : Kd.R (Kd.int .i64) 3 w50 w.heap.size (fun _ => True) (.slice (some ⟨go48, 0, none⟩) x10_2.length co21) y345 := (by rw [hw, Ny345.out]; exact HP49.1); clear HP49; replace HO_7 := Aside0.mk (Kd.R_over' (v := (.slice (some ⟨go48, 0, none⟩) x10_2.length co21)) (Rm HO_7.out) (Kd.R_typed HO_10.out) (by decide) hg); replace HO_10 := Aside0.mk (hp_); replace HB := Aside0.mk ((by rw [hw]; exact below_set (HB.out) GB48.out : Below w.heap.size w w50)); clear hg hw hp_)))
             (try (generalize hq_ : World.drewN wr _ = wq; replace HO_7 := Aside0.mk (Kd.R_at hq_ HO_7.out); replace HO_10 := Aside0.mk (Kd.R_at hq_ HO_10.out); replace HB := Aside0.mk (below_at hq_ HB.out); clear hq_; obtain ⟨w50, hw⟩ : ∃ w_, w_ = wq.setCell ⟨go48, (x30_2 : Int).toNat, none⟩ (.int .i64 (-1)) := ⟨_, rfl⟩; rw [← hw]; have HP49 := Kd.R_putg HO_10.out (x30_2 : Int) (-1); have hg : wq.grownBy w50 (some go48) := (by rw [hw]; exact HP49.2); have hp_ : Kd.R (Kd.int .i64) 3 w50 w.heap.size (fun _ => True) (.slice (some ⟨go48, 0, none⟩) x10_2.length co21) y345 := (by rw [hw, Ny345.out]; exact HP49.1); clear HP49; replace HO_7 := Aside0.mk (Kd.R_over' (v := (.slice (some ⟨go48, 0, none⟩) x10_2.length co21)) (Rm HO_7.out) (Kd.R_typed HO_10.out) (by decide) hg); replace HO_10 := Aside0.mk (hp_); replace HB := Aside0.mk ((by rw [hw]; exact below_set (HB.out) GB48.out : Below w.heap.size w w50)); clear hg hw hp_)); try go_wp2_with (first | ((with_reducible refine gate_store (t := 3) (p := 35) rfl ?_); (try (rw [drewN_self wr]; generalize hq_ : World.drewN wr _ = wr; replace HO_7 := Aside0.mk (Kd.R_at hq_ HO_7.out); replace HO_10 := Aside0.mk (Kd.R_at hq_ HO_10.out); replace HB := Aside0.mk (below_at hq_ HB.out); clear hq_; (try (have HP49 := Kd.R_putg HO_10.out (x30_2 : Int) (-1))))); refine store_event (t := 3) (p := 35) (v := ?vo_w50) (w1 := (wr.setCell ⟨go48, (x30_2 : Int).toNat, none⟩ (.int .i64 (-1)))) ?hg ?ho ?hn ?hr ?_; (case ho => rfl); (case hg => rfl); (case hn => rfl); (case hr => first | (go_simp; done) | (go_simp; rfl)); intro w50 hw; have hg : wq.grownBy w50 (some go48) := (by rw [hw]; exact HP49.2); have hp_ : Kd.R (Kd.int .i64) 3 w50 w.heap.size (fun _ => True) (.slice (some ⟨go48, 0, none⟩) x10_2.length co21) y345 := (by rw [hw, Ny345.out]; exact HP49.1); clear HP49; replace HO_7 := Aside0.mk (Kd.R_over' (v := (.slice (some ⟨go48, 0, none⟩) x10_2.length co21)) (Rm HO_7.out) (Kd.R_typed HO_10.out) (by decide) hg); replace HO_10 := Aside0.mk (hp_); replace HB := Aside0.mk ((by rw [hw]; exact below_set (HB.out) GB48.out : Below w.heap.size w w50)); clear hg hw hp_))
             (try simp only [← hl10_2])
             go_roundg k2
             case measure => have := HK1.out; have := HK2.out; omega
             case rel => exact ⟨(y345), (wrap64 (x30_2 + 1)), Rs, H', ⟨by have := HK1.out; have := HK2.out; omega⟩, ⟨by (try simp only [hl7_1]); (try simp only [hl10_2]); (with_reducible repeat (first | apply Kd.R_alloc | apply Kd.R_drewN | apply Kd.R_drew)); exact HO_7.out⟩, ⟨by (try simp only [hl7_1]); (try simp only [hl10_2]); (with_reducible repeat (first | apply Kd.R_alloc | apply Kd.R_drewN | apply Kd.R_drew)); exact HO_10.out⟩, ⟨Ub⟩⟩
           have c31b0 : decide ((rd l0 x20_1) ≤ x30_2) = false := decide_eq_false c31
           clear c31
           replace H := Ip H; obtain ⟨c51, H⟩ := H
           have c51b0 := decide_eq_true c51
           clear c51
           obtain ⟨y346, hy346⟩ : ∃ y_ : List Int, y_ = (x10_2.set (x30_2 : Int).toNat (-1)) := ⟨_, rfl⟩
           replace H : (spec_cnFrom.l1 k2 l1 a2 x7_1 x20_1 (rd l0 x20_1) y346 l0 (l0.length : Int) x20_1 (y334.length : Int) (wrap64 (x30_2 + 1))) = some r := by first | (rw [hy346]; with_reducible exact H) | (have H2_ := (Option.bind_some _ _).symm.trans H; rw [hy346]; with_reducible exact H2_) | (have H2_ := (Option.bind_some _ _).symm.trans H; with_reducible exact H2_) | with_reducible exact H | (rw [hy346]; exact H) | exact H
           have Ny346 := Aside0.mk hy346
           clear hy346
           have H' := Aside0.mk H
           clear H
           have p337 : 0 ≤ (x30_2 : Int) := Oa
           have q337 : x30_2 < (x7_1.length : Int) := Oa
           obtain ⟨ad337, e337, hx337_0⟩ := Kd.at_bool (Kd.R_reads' HO_7.out).2.2 x30_2 p337 q337
           (try rw [← Nbq25.out] at hx337_0)
           obtain rfl : (⟨go8, 0, none⟩ : Addr) = ad337 := (by injection e337)
           (first | simp only [add_plain] at hx337_0 | simp only [add_at] at hx337_0 | simp only [Addr.add, Nat.zero_add] at hx337_0 | skip)
           replace p337 := eq_true p337
           replace q337 := eq_true q337
           have p52 : 0 ≤ (x30_2 : Int) := Oa
           have q52 : (x30_2 : Int) < ((x10_2.length : Int) : Int) := Oa
           obtain ⟨go52, co52, eo52, gb52, gl52, cl52, HG52⟩ := Kd.R_form HO_10.out (by omega)
           (first | cases eo52 | (injection eo52 with ea_ en_ ec_; (first | subst ea_ | (injection ea_ with ea_; subst ea_)); subst ec_; clear en_))
           have GB52 := Aside0.mk gb52
           have GG52 := Aside0.mk HG52
           clear gb52 gl52 HG52
           obtain ⟨hx52_0, hf52_0⟩ := Kd.R_celln 0 HO_10.out (x30_2 : Int) p52 q52
           replace p52 := eq_true p52
           replace q52 := eq_true q52
           have HP53 := Kd.R_putg HO_10.out (x30_2 : Int) (-1)
           go_wp2_with (first | ((with_reducible refine gate_store (t := 3) (p := 35) rfl ?_); (try (rw [drewN_self wr]; generalize hq_ : World.drewN wr _ = wr; replace HO_7 := Aside0.mk (Kd.R_at hq_ HO_7.out); replace HO_10 := Aside0.mk (Kd.R_at hq_ HO_10.out); replace HB := Aside0.mk (below_at hq_ HB.out); clear hq_; (try (have HP53 := Kd.R_putg HO_10.out (x30_2 : Int) (-1))))); refine store_event (t := 3) (p := 35) (v := ?vo_w54) (w1 := (wr.setCell ⟨go52, (x30_2 : Int).toNat, none⟩ (.int .i64 (-1)))) ?hg ?ho ?hn ?hr ?_; (case ho => rfl); (case hg => rfl); (case hn => rfl); (case hr => first | (go_simp; done) | (go_simp; rfl)); intro w54 hw; have hg : wr.grownBy w54 (some go52) := (by rw [hw]; exact HP53.2); have hp_ : Kd.R (Kd.int .i64) 3 w54 w.heap.size (fun _ => True) (.slice (some ⟨go52, 0, none⟩) x10_2.length co21) y346 := (by rw [hw, Ny346.out]; exact HP53.1); clear HP53; replace HO_7 := Aside0.mk (Kd.R_over' (v := (.slice (some ⟨go52, 0, none⟩) x10_2.length co21)) (Rm HO_7.out) (Kd.R_typed HO_10.out) (by decide) hg); replace HO_10 := Aside0.mk (hp_); replace HB := Aside0.mk ((by rw [hw]; exact below_set (HB.out) GB52.out : Below w.heap.size w w54)); clear hg hw hp_))
           repeat (go_quiet (first | ((with_reducible refine gate_store (t := 3) (p := 35) rfl ?_); (try (rw [drewN_self wr]; generalize hq_ : World.drewN wr _ = wr; replace HO_7 := Aside0.mk (Kd.R_at hq_ HO_7.out); replace HO_10 := Aside0.mk (Kd.R_at hq_ HO_10.out); replace HB := Aside0.mk (below_at hq_ HB.out); clear hq_; (try (have HP53 := Kd.R_putg HO_10.out (x30_2 : Int) (-1))))); refine store_event (t := 3) (p := 35) (v := ?vo_w54) (w1 := (wr.setCell ⟨go52, (x30_2 : Int).toNat, none⟩ (.int .i64 (-1)))) ?hg ?ho ?hn ?hr ?_; (case ho => rfl); (case hg => rfl); (case hn => rfl); (case hr => first | (go_simp; done) | (go_simp; rfl)); intro w54 hw; have hg : wr.grownBy w54 (some go52) := (by rw [hw]; exact HP53.2); have hp_ : Kd.R (Kd.int .i64) 3 w54 w.heap.size (fun _ => True) (.slice (some ⟨go52, 0, none⟩) x10_2.length co21) y346 := (by rw [hw, Ny346.out]; exact HP53.1); clear HP53; replace HO_7 := Aside0.mk (Kd.R_over' (v := (.slice (some ⟨go52, 0, none⟩) x10_2.length co21)) (Rm HO_7.out) (Kd.R_typed HO_10.out) (by decide) hg); replace HO_10 := Aside0.mk (hp_); replace HB := Aside0.mk ((by rw [hw]; exact below_set (HB.out) GB52.out : Below w.heap.size w w54)); clear hg hw hp_)); try go_wp2_with (first | ((with_reducible refine gate_store (t := 3) (p := 35) rfl ?_); (try (rw [drewN_self wr]; generalize hq_ : World.drewN wr _ = wr; replace HO_7 := Aside0.mk (Kd.R_at hq_ HO_7.out); replace HO_10 := Aside0.mk (Kd.R_at hq_ HO_10.out); replace HB := Aside0.mk (below_at hq_ HB.out); clear hq_; (try (have HP53 := Kd.R_putg HO_10.out (x30_2 : Int) (-1))))); refine store_event (t := 3) (p := 35) (v := ?vo_w54) (w1 := (wr.setCell ⟨go52, (x30_2 : Int).toNat, none⟩ (.int .i64 (-1)))) ?hg ?ho ?hn ?hr ?_; (case ho => rfl); (case hg => rfl); (case hn => rfl); (case hr => first | (go_simp; done) | (go_simp; rfl)); intro w54 hw; have hg : wr.grownBy w54 (some go52) := (by rw [hw]; exact HP53.2); have hp_ : Kd.R (Kd.int .i64) 3 w54 w.heap.size (fun _ => True) (.slice (some ⟨go52, 0, none⟩) x10_2.length co21) y346 := (by rw [hw, Ny346.out]; exact HP53.1); clear HP53; replace HO_7 := Aside0.mk (Kd.R_over' (v := (.slice (some ⟨go52, 0, none⟩) x10_2.length co21)) (Rm HO_7.out) (Kd.R_typed HO_10.out) (by decide) hg); replace HO_10 := Aside0.mk (hp_); replace HB := Aside0.mk ((by rw [hw]; exact below_set (HB.out) GB52.out : Below w.heap.size w w54)); clear hg hw hp_)))
           (try (generalize hq_ : World.drewN wr _ = wq; replace HO_7 := Aside0.mk (Kd.R_at hq_ HO_7.out); replace HO_10 := Aside0.mk (Kd.R_at hq_ HO_10.out); replace HB := Aside0.mk (below_at hq_ HB.out); clear hq_; obtain ⟨w54, hw⟩ : ∃ w_, w_ = wq.setCell ⟨go52, (x30_2 : Int).toNat, none⟩ (.int .i64 (-1)) := ⟨_, rfl⟩; rw [← hw]; have HP53 := Kd.R_putg HO_10.out (x30_2 : Int) (-1); have hg : wq.grownBy w54 (some go52) := (by rw [hw]; exact HP53.2); have hp_ : Kd.R (Kd.int .i64) 3 w54 w.heap.size (fun _ => True) (.slice (some ⟨go52, 0, none⟩) x10_2.length co21) y346 := (by rw [hw, Ny346.out]; exact HP53.1); clear HP53; replace HO_7 := Aside0.mk (Kd.R_over' (v := (.slice (some ⟨go52, 0, none⟩) x10_2.length co21)) (Rm HO_7.out) (Kd.R_typed HO_10.out) (by decide) hg); replace HO_10 := Aside0.mk (hp_); replace HB := Aside0.mk ((by rw [hw]; exact below_set (HB.out) GB52.out : Below w.heap.size w w54)); clear hg hw hp_)); try go_wp2_with (first | ((with_reducible refine gate_store (t := 3) (p := 35) rfl ?_); (try (rw [drewN_self wr]; generalize hq_ : World.drewN wr _ = wr; replace HO_7 := Aside0.mk (Kd.R_at hq_ HO_7.out); replace HO_10 := Aside0.mk (Kd.R_at hq_ HO_10.out); replace HB := Aside0.mk (below_at hq_ HB.out); clear hq_; (try (have HP53 := Kd.R_putg HO_10.out (x30_2 : Int) (-1))))); refine store_event (t := 3) (p := 35) (v := ?vo_w54) (w1 := (wr.setCell ⟨go52, (x30_2 : Int).toNat, none⟩ (.int .i64 (-1)))) ?hg ?ho ?hn ?hr ?_; (case ho => rfl); (case hg => rfl); (case hn => rfl); (case hr => first | (go_simp; done) | (go_simp; rfl)); intro w54 hw; have hg : wq.grownBy w54 (some go52) := (by rw [hw]; exact HP53.2); have hp_ : Kd.R (Kd.int .i64) 3 w54 w.heap.size (fun _ => True) (.slice (some ⟨go52, 0, none⟩) x10_2.length co21) y346 := (by rw [hw, Ny346.out]; exact HP53.1); clear HP53; replace HO_7 := Aside0.mk (Kd.R_over' (v := (.slice (some ⟨go52, 0, none⟩) x10_2.length co21)) (Rm HO_7.out) (Kd.R_typed HO_10.out) (by decide) hg); replace HO_10 := Aside0.mk (hp_); replace HB := Aside0.mk ((by rw [hw]; exact below_set (HB.out) GB52.out : Below w.heap.size w w54)); clear hg hw hp_))
           (try simp only [← hl10_2])
           go_roundg k2
           case measure => have := HK1.out; have := HK2.out; omega
           case rel => exact ⟨(y346), (wrap64 (x30_2 + 1)), Rs, H', ⟨by have := HK1.out; have := HK2.out; omega⟩, ⟨by (try simp only [hl7_1]); (try simp only [hl10_2]); (with_reducible repeat (first | apply Kd.R_alloc | apply Kd.R_drewN | apply Kd.R_drew)); exact HO_7.out⟩, ⟨by (try simp only [hl7_1]); (try simp only [hl10_2]); (with_reducible repeat (first | apply Kd.R_alloc | apply Kd.R_drewN | apply Kd.R_drew)); exact HO_10.out⟩, ⟨Ub⟩⟩
         have c22b0 := decide_eq_false c22
         (try rw [hl10_2] at c22b0)
         clear c22
         have H' := Aside0.mk H
         clear H
         go_wp2
         repeat (go_quiet (fail); try go_wp2)
         go_loopg [83] k2 (fun kq v83 w' => ∃ (x7_3 : List Bool) (x83_3 : Int), v83 = .int .i64 x83_3 ∧ Aside0 (spec_cnFrom.l2 kq l1 a2 x7_3 x10_2 l0 (l0.length : Int) x20_1 (x7_1.length : Int) x83_3 = some r) ∧ Aside0 (kq ≤ k2) ∧ Aside0 (Kd.R Kd.bool 4 w' w.heap.size (fun _ => True) (.slice (some ⟨go8, 0, none⟩) x7_1.length co8) x7_3) ∧ Aside0 (Kd.R (Kd.int .i64) 3 w' w.heap.size (fun _ => True) (.slice Ao21 x10_2.length co21) x10_2) ∧ Aside0 (Below w.heap.size w w'))
         case atStart => exact ⟨(x7_1), (0), Rs, H', ⟨Nat.le_refl _⟩, ⟨by (try simp only [hl7_1]); (try simp only [hl10_2]); (with_reducible repeat (first | apply Kd.R_alloc | apply Kd.R_drewN | apply Kd.R_drew)); exact HO_7.out⟩, ⟨by (try simp only [hl7_1]); (try simp only [hl10_2]); (with_reducible repeat (first | apply Kd.R_alloc | apply Kd.R_drewN | apply Kd.R_drew)); exact HO_10.out⟩, ⟨Ub⟩⟩
         case round =>
          clear H'
          try clear c1
          try clear c5
          try clear c5b0
          try clear c5b1
          try clear c6
          try clear c6b0
          try clear c6b1
          try clear c7
          try clear c7b0
          try clear c7b1
          try clear p8
          try clear q8
          try clear qi8
          try clear c13
          try clear c13b0
          try clear c14
          try clear c14b0
          try clear c15
          try clear c15b0
          try clear c17
          try clear c17b0
          try clear c17b1
          try clear c18
          try clear c18b0
          try clear c18b1
          try clear c22
          try clear c22b0
          try clear c23
          try clear c23b0
          try clear c24
          try clear c24b0
          try clear c26
          try clear c27
          try clear c27b0
          try clear p28
          try clear q28
          try clear c31
          try clear c31b0
          try clear c33
          try clear c33b0
          try clear c34
          try clear c34b0
          try clear c35
          try clear c35b0
          try clear c36
          try clear c36b0
          try clear c37
          try clear c37b0
          try clear c38
          try clear c38b0
          try clear c39
          try clear c39b0
          try clear p40
          try clear q40
          try clear c43
          try clear c43b0
          try clear p44
          try clear q44
          try clear c47
          try clear c47b0
          try clear p48
          try clear q48
          try clear c51
          try clear c51b0
          try clear p52
          try clear q52
          try clear hx28_0
          try clear hx333_0
          try clear hx337_0
          try clear hx339_0
          try clear hx340_0
          try clear hx341_0
          try clear hx342_0
          try clear hx40_0
          try clear hx44_0
          try clear hx48_0
          try clear hx52_0
          try clear hx8_0
          try clear p28
          try clear p333
          try clear p337
          try clear p339
          try clear p340
          try clear p341
          try clear p342
          try clear p40
          try clear p44
          try clear p48
          try clear p52
          try clear p8
          try clear q28
          try clear q333
          try clear q337
          try clear q339
          try clear q340
          try clear q341
          try clear q342
          try clear q40
          try clear q44
          try clear q48
          try clear q52
          try clear q8
          obtain ⟨x7_3, x83_3, rfl, HA, HK3, HO_7, HO_10, HB⟩ := hrel
          have hl7_3 := (Kd.R_reads' HO_7.out).1
          rw [hl7_3] at HO_7
          (try simp only [hl7_3])
          (try simp only [hl7_3] at HO_10)
          cases gk with
          | zero => exact absurd HA.out (by simp [spec_cnFrom.l2])
          | succ k3 =>
           have H := HA.out
           clear HA
           simp only [spec_cnFrom.l2] at H
           replace H := Ic H; rcases H with ⟨c55, H⟩ | ⟨c55, H⟩
           · have c55b0 := decide_eq_true c55
             clear c55
             replace H := Ip H; obtain ⟨c56, H⟩ := H
             have c56b0 := decide_eq_true c56
             clear c56
             replace H := Ip H; obtain ⟨c57, H⟩ := H
             have c57b0 := decide_eq_true c57
             clear c57
             replace H := Ip H; obtain ⟨c58, H⟩ := H
             have c58b0 := decide_eq_true c58
             clear c58
             obtain ⟨y348, hy348⟩ : ∃ y_ : List Bool, y_ = (x7_3.set (x83_3 : Int).toNat (decide ((rd x10_2 x83_3) ≥ 0))) := ⟨_, rfl⟩
             replace H : (spec_cnFrom.l2 k3 l1 a2 y348 x10_2 l0 (l0.length : Int) x20_1 (x7_1.length : Int) (wrap64 (x83_3 + 1))) = some r := by first | (rw [hy348]; with_reducible exact H) | (have H2_ := (Option.bind_some _ _).symm.trans H; rw [hy348]; with_reducible exact H2_) | (have H2_ := (Option.bind_some _ _).symm.trans H; with_reducible exact H2_) | with_reducible exact H | (rw [hy348]; exact H) | exact H
             have Ny348 := Aside0.mk hy348
             clear hy348
             have H' := Aside0.mk H
             clear H
             obtain ⟨p347, q347, ad347, e347, hx347_0⟩ := Ai (Kd.R_reads' HO_10.out).2.2 x83_3
             cases e347
             have p59 : 0 ≤ (x83_3 : Int) := Oa
             have q59 : (x83_3 : Int) < ((x7_3.length : Int) : Int) := Oa
             obtain ⟨hx59_0, hf59_0⟩ := Kd.R_celln false HO_7.out (x83_3 : Int) p59 q59
             replace p59 := eq_true p59
             replace q59 := eq_true q59
             have HP60 := Kd.R_putg HO_7.out (x83_3 : Int) (decide ((rd x10_2 x83_3) ≥ 0))
             go_wp2_with (first | ((with_reducible refine gate_store (t := 4) (p := 93) rfl ?_); (try (rw [drewN_self wr]; generalize hq_ : World.drewN wr _ = wr; replace HO_7 := Aside0.mk (Kd.R_at hq_ HO_7.out); replace HO_10 := Aside0.mk (Kd.R_at hq_ HO_10.out); replace HB := Aside0.mk (below_at hq_ HB.out); clear hq_; (try (have HP60 := Kd.R_putg HO_7.out (x83_3 : Int) (decide ((rd x10_2 x83_3) ≥ 0)))))); refine store_event (t := 4) (p := 93) (v := ?vo_w61) (w1 := (wr.setCell ⟨go8, (x83_3 : Int).toNat, none⟩ (.bool (decide ((rd x10_2 x83_3) ≥ 0))))) ?hg ?ho ?hn ?hr ?_; (case ho => rfl); (case hg => rfl); (case hn => rfl); (case hr => first | (go_simp; done) | (go_simp; rfl)); intro w61 hw; have hg : wr.grownBy w61 (some go8) := (by rw [hw]; exact HP60.2); have hp_ : Kd.R Kd.bool 4 w61 w.heap.size (fun _ => True) (.slice (some ⟨go8, 0, none⟩) x7_3.length co8) y348 := (by rw [hw, Ny348.out]; exact HP60.1); clear HP60; replace HO_10 := Aside0.mk (Kd.R_over' (v := (.slice (some ⟨go8, 0, none⟩) x7_3.length co8)) (Rm HO_10.out) (Kd.R_typed HO_7.out) (by decide) hg); replace HO_7 := Aside0.mk (hp_); replace HB := Aside0.mk ((by rw [hw]; exact below_set (HB.out) GB8.out : Below w.heap.size w w61)); clear hg hw hp_))
             repeat (go_quiet (first | ((with_reducible refine gate_store (t := 4) (p := 93) rfl ?_); (try (rw [drewN_self wr]; generalize hq_ : World.drewN wr _ = wr; replace HO_7 := Aside0.mk (Kd.R_at hq_ HO_7.out); replace HO_10 := Aside0.mk (Kd.R_at hq_ HO_10.out); replace HB := Aside0.mk (below_at hq_ HB.out); clear hq_; (try (have HP60 := Kd.R_putg HO_7.out (x83_3 : Int) (decide ((rd x10_2 x83_3) ≥ 0)))))); refine store_event (t := 4) (p := 93) (v := ?vo_w61) (w1 := (wr.setCell ⟨go8, (x83_3 : Int).toNat, none⟩ (.bool (decide ((rd x10_2 x83_3) ≥ 0))))) ?hg ?ho ?hn ?hr ?_; (case ho => rfl); (case hg => rfl); (case hn => rfl); (case hr => first | (go_simp; done) | (go_simp; rfl)); intro w61 hw; have hg : wr.grownBy w61 (some go8) := (by rw [hw]; exact HP60.2); have hp_ : Kd.R Kd.bool 4 w61 w.heap.size (fun _ => True) (.slice (some ⟨go8, 0, none⟩) x7_3.length co8) y348 := (by rw [hw, Ny348.out]; exact HP60.1); clear HP60; replace HO_10 := Aside0.mk (Kd.R_over' (v := (.slice (some ⟨go8, 0, none⟩) x7_3.length co8)) (Rm HO_10.out) (Kd.R_typed HO_7.out) (by decide) hg); replace HO_7 := Aside0.mk (hp_); replace HB := Aside0.mk ((by rw [hw]; exact below_set (HB.out) GB8.out : Below w.heap.size w w61)); clear hg hw hp_)); try go_wp2_with (first | ((with_reducible refine gate_store (t := 4) (p := 93) rfl ?_); (try (rw [drewN_self wr]; generalize hq_ : World.drewN wr _ = wr; replace HO_7 := Aside0.mk (Kd.R_at hq_ HO_7.out); replace HO_10 := Aside0.mk (Kd.R_at hq_ HO_10.out); replace HB := Aside0.mk (below_at hq_ HB.out); clear hq_; (try (have HP60 := Kd.R_putg HO_7.out (x83_3 : Int) (decide ((rd x10_2 x83_3) ≥ 0)))))); refine store_event (t := 4) (p := 93) (v := ?vo_w61) (w1 := (wr.setCell ⟨go8, (x83_3 : Int).toNat, none⟩ (.bool (decide ((rd x10_2 x83_3) ≥ 0))))) ?hg ?ho ?hn ?hr ?_; (case ho => rfl); (case hg => rfl); (case hn => rfl); (case hr => first | (go_simp; done) | (go_simp; rfl)); intro w61 hw; have hg : wr.grownBy w61 (some go8) := (by rw [hw]; exact HP60.2); have hp_ : Kd.R Kd.bool 4 w61 w.heap.size (fun _ => True) (.slice (some ⟨go8, 0, none⟩) x7_3.length co8) y348 := (by rw [hw, Ny348.out]; exact HP60.1); clear HP60; replace HO_10 := Aside0.mk (Kd.R_over' (v := (.slice (some ⟨go8, 0, none⟩) x7_3.length co8)) (Rm HO_10.out) (Kd.R_typed HO_7.out) (by decide) hg); replace HO_7 := Aside0.mk (hp_); replace HB := Aside0.mk ((by rw [hw]; exact below_set (HB.out) GB8.out : Below w.heap.size w w61)); clear hg hw hp_)))
             (try (generalize hq_ : World.drewN wr _ = wq; replace HO_7 := Aside0.mk (Kd.R_at hq_ HO_7.out); replace HO_10 := Aside0.mk (Kd.R_at hq_ HO_10.out); replace HB := Aside0.mk (below_at hq_ HB.out); clear hq_; obtain ⟨w61, hw⟩ : ∃ w_, w_ = wq.setCell ⟨go8, (x83_3 : Int).toNat, none⟩ (.bool (decide ((rd x10_2 x83_3) ≥ 0))) := ⟨_, rfl⟩; rw [← hw]; have HP60 := Kd.R_putg HO_7.out (x83_3 : Int) (decide ((rd x10_2 x83_3) ≥ 0)); have hg : wq.grownBy w61 (some go8) := (by rw [hw]; exact HP60.2); have hp_ : Kd.R Kd.bool 4 w61 w.heap.size (fun _ => True) (.slice (some ⟨go8, 0, none⟩) x7_3.length co8) y348 := (by rw [hw, Ny348.out]; exact HP60.1); clear HP60; replace HO_10 := Aside0.mk (Kd.R_over' (v := (.slice (some ⟨go8, 0, none⟩) x7_3.length co8)) (Rm HO_10.out) (Kd.R_typed HO_7.out) (by decide) hg); replace HO_7 := Aside0.mk (hp_); replace HB := Aside0.mk ((by rw [hw]; exact below_set (HB.out) GB8.out : Below w.heap.size w w61)); clear hg hw hp_)); try go_wp2_with (first | ((with_reducible refine gate_store (t := 4) (p := 93) rfl ?_); (try (rw [drewN_self wr]; generalize hq_ : World.drewN wr _ = wr; replace HO_7 := Aside0.mk (Kd.R_at hq_ HO_7.out); replace HO_10 := Aside0.mk (Kd.R_at hq_ HO_10.out); replace HB := Aside0.mk (below_at hq_ HB.out); clear hq_; (try (have HP60 := Kd.R_putg HO_7.out (x83_3 : Int) (decide ((rd x10_2 x83_3) ≥ 0)))))); refine store_event (t := 4) (p := 93) (v := ?vo_w61) (w1 := (wr.setCell ⟨go8, (x83_3 : Int).toNat, none⟩ (.bool (decide ((rd x10_2 x83_3) ≥ 0))))) ?hg ?ho ?hn ?hr ?_; (case ho => rfl); (case hg => rfl); (case hn => rfl); (case hr => first | (go_simp; done) | (go_simp; rfl)); intro w61 hw; have hg : wq.grownBy w61 (some go8) := (by rw [hw]; exact HP60.2); have hp_ : Kd.R Kd.bool 4 w61 w.heap.size (fun _ => True) (.slice (some ⟨go8, 0, none⟩) x7_3.length co8) y348 := (by rw [hw, Ny348.out]; exact HP60.1); clear HP60; replace HO_10 := Aside0.mk (Kd.R_over' (v := (.slice (some ⟨go8, 0, none⟩) x7_3.length co8)) (Rm HO_10.out) (Kd.R_typed HO_7.out) (by decide) hg); replace HO_7 := Aside0.mk (hp_); replace HB := Aside0.mk ((by rw [hw]; exact below_set (HB.out) GB8.out : Below w.heap.size w w61)); clear hg hw hp_))
             (try simp only [← hl7_3])
             go_roundg k3
             case measure => have := HK1.out; have := HK2.out; have := HK3.out; omega
             case rel => exact ⟨(y348), (wrap64 (x83_3 + 1)), Rs, H', ⟨by have := HK1.out; have := HK2.out; have := HK3.out; omega⟩, ⟨by (try simp only [hl7_1]); (try simp only [hl10_2]); (try simp only [hl7_3]); (with_reducible repeat (first | apply Kd.R_alloc | apply Kd.R_drewN | apply Kd.R_drew)); exact HO_7.out⟩, ⟨by (try simp only [hl7_1]); (try simp only [hl10_2]); (try simp only [hl7_3]); (with_reducible repeat (first | apply Kd.R_alloc | apply Kd.R_drewN | apply Kd.R_drew)); exact HO_10.out⟩, ⟨Ub⟩⟩
           have c55b0 := decide_eq_false c55
           (try rw [hl7_3] at c55b0)
           clear c55
           have H' := Aside0.mk H
           clear H
           go_wp2
           repeat (go_quiet (fail); try go_wp2)
           (try simp only [← hl7_1, ← hl10_2, ← hl7_3])
           go_roundg k3
           case measure => have := HK1.out; have := HK2.out; have := HK3.out; omega
           case rel => exact ⟨(x7_3), (wrap64 (x20_1 + 1)), Rs, H', ⟨by have := HK1.out; have := HK2.out; have := HK3.out; omega⟩, ⟨by (try simp only [hl7_1]); (try simp only [hl10_2]); (try simp only [hl7_3]); (with_reducible repeat (first | apply Kd.R_alloc | apply Kd.R_drewN | apply Kd.R_drew)); exact HO_7.out⟩, ⟨Ub⟩⟩
     have c13b0 := decide_eq_false c13
     (try rw [hl7_3] at c13b0)
     clear c13
     obtain rfl := Option.some.inj H
     go_wp2
     repeat (go_quiet (fail); try go_wp2)
     go_ret
     exact ⟨_, by first | rfl | (simp [errW_none, errW_some] <;> rfl) | (simp only [← hji4]; first | rfl | (simp [errW_none, errW_some] <;> rfl)) | (simp [*, errW_none, errW_some] <;> rfl), Rm HO_7.out, Ub⟩
 exact absurd H (by simp)

end Go.Proofs.Ytkbllhlmcfjcdaa.PFnChangeLeft
