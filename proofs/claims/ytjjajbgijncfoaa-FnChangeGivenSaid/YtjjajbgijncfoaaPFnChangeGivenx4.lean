-- MADE FOR THIS CLAIM by wip/xp/xprint.py (with the kit's print; some functions' contracts proved by hand)
import Derived.Test.YtjjajbgijncfoaaPFnChangeGivenx0
import Derived.Test.YtjjajbgijncfoaaPFnChangeGivenx2
import Derived.Test.YtjjajbgijncfoaaPFnChangeGivenx3
set_option maxHeartbeats 8000000
set_option maxRecDepth 100000
namespace Go.Proofs.Ytjjajbgijncfoaa.PFnChangeGiven
open Go.RowKit Go.Proofs.YtjjajbgijncfoaaW.PrintWords Go.Proofs.YtjjajbgijncfoaaW.PrintLast Go.Proofs.YtjjajbgijncfoaaW.PrintMore Go.Proofs.Ytjjajbgijncfoaa.Xmv
attribute [local go_sem] max2_int min2_int max_two min_two max_three min_three max_four min_four   -- for this text's walks alone
set_option linter.unusedVariables false
set_option linter.unusedSimpArgs false

/-! ### impl_BestChange: function 9 -/
mutual
def impl_BestChange.l0 : Nat → List Int → Int → List (List Int) → Int → Int → Option (List Int × Bool)
 | 0, _, _, _, _, _ => none
 | k + 1, x0, x1, x8, x27, x28 => if x28 < x27 then (if 0 ≤ x28 then (if x28 ≤ (x0.length : Int) then ((impl_fewStamps.f k (x0.drop (x28 : Int).toNat) x1).bind fun t254 => (if x28 < (x8.length : Int) then (impl_BestChange.l0 k x0 x1 (x8.set (x28 : Int).toNat t254) x27 (wrap64 (x28 + 1))) else (none))) else (none)) else (none)) else ((impl_fewStamps.f k ([] : List Int) x1).bind fun t258 => (if 0 ≤ (x0.length : Int) then (if (x0.length : Int) < (x8.length : Int) then (impl_BestChange.l1 k x1 (x8.set ((x0.length : Int) : Int).toNat t258) (([] : List Int)) x0 (x0.length : Int) 0) else (none)) else (none)))
def impl_BestChange.l1 : Nat → Int → List (List Int) → List Int → List Int → Int → Int → Option (List Int × Bool)
 | 0, _, _, _, _, _, _ => none
 | k + 1, x1, x8, x10, x47, x48, x49 => if x49 < x48 then (if 0 ≤ x49 then (if x49 < (x47.length : Int) then (impl_BestChange.l2 k x1 x8 x10 x49 (rd x47 x49) 0 x47 x48 x49) else (none)) else (none)) else (some (x10, true))
def impl_BestChange.l2 : Nat → Int → List (List Int) → List Int → Int → Int → Int → List Int → Int → Int → Option (List Int × Bool)
 | 0, _, _, _, _, _, _, _, _, _ => none
 | k + 1, x1, x8, x10, x11, x12, x13, x47, x48, x49 => if 0 ≤ (wrap64 (x11 + 1)) then (if (wrap64 (x11 + 1)) < (x8.length : Int) then (if 0 ≤ (wrap64 (x1 - (wrap64 (x13 * x12)))) then (if (wrap64 (x1 - (wrap64 (x13 * x12)))) < ((rd_L2 x8 (wrap64 (x11 + 1))).length : Int) then (if 0 ≤ x11 then (if x11 < (x8.length : Int) then (if 0 ≤ x1 then (if x1 < ((rd_L2 x8 x11).length : Int) then (if (wrap64 (x13 + (rd (rd_L2 x8 (wrap64 (x11 + 1))) (wrap64 (x1 - (wrap64 (x13 * x12))))))) = (rd (rd_L2 x8 x11) x1) then (if (rd (rd_L2 x8 (wrap64 (x11 + 1))) (wrap64 (x1 - (wrap64 (x13 * x12))))) > (wrap64 (x1 - (wrap64 (x13 * x12)))) then (impl_BestChange.l2 k x1 x8 x10 x11 x12 (wrap64 (x13 + 1)) x47 x48 x49) else (if x10.length < 17592186044416 then (impl_BestChange.l1 k (wrap64 (x1 - (wrap64 (x13 * x12)))) x8 (x10 ++ [x13]) x47 x48 (wrap64 (x49 + 1))) else (none))) else (impl_BestChange.l2 k x1 x8 x10 x11 x12 (wrap64 (x13 + 1)) x47 x48 x49)) else (none)) else (none)) else (none)) else (none)) else (none)) else (none)) else (none)) else (none)
end
def impl_BestChange.f (k : Nat) (l0 : List Int) (a1 : Int) : Option (List Int × Bool) := (impl_FewestCoins.f k l0 a1).bind fun bt248 => (if bt248.2 = true then (if 0 ≤ (wrap64 ((l0.length : Int) + 1)) then (if (wrap64 ((l0.length : Int) + 1) : Int).toNat ≤ 11728124029610 then (impl_BestChange.l0 k l0 a1 (List.replicate (wrap64 ((l0.length : Int) + 1) : Int).toNat []) (l0.length : Int) 0) else (none)) else (none)) else (some (([] : List Int), false)))
theorem impl_BestChange.calls (k : Nat) (A0 : Option Addr) (c0 : Nat) (l0 : List Int) (a1 : Int) (r1 : List Int) (r2 : Bool) (w : World) (hr0 : Kd.C (Kd.int .i64) w A0 l0.length l0) (hc0 : l0.length ≤ c0) (h : impl_BestChange.f k l0 a1 = some (r1, r2)) :
 Calls Try.prog 9 #[.slice A0 l0.length c0, .int .i64 a1] w fun e w' => ∃ v0_ : Value, e = .returned (.tuple #[v0_, .bool r2]) ∧ Kd.R (Kd.int .i64) 3 w' w.heap.size (fun _ => True) v0_ r1 ∧ Below w.heap.size w w' := by
 have HR0 := Aside0.mk hr0
 have HC0 := Aside0.mk hc0
 clear hr0 hc0
 have HB := Aside0.mk (Below.refl w.heap.size w)
 have H := h; unfold impl_BestChange.f at H
 clear h
 replace H := Option.bind_eq_some_iff.mp H
 obtain ⟨⟨t248, t249⟩, A30, H⟩ := H
 have A3 := Aside0.mk A30
 clear A30
 replace H := Iw H; rcases H with ⟨rfl, H⟩ | ⟨rfl, H⟩
 · obtain ⟨ji5, hji5⟩ : ∃ j_ : Int, (wrap64 ((l0.length : Int) + 1)) = j_ := ⟨_, rfl⟩
   replace H : (if 0 ≤ (ji5) then (if (ji5 : Int).toNat ≤ 11728124029610 then (impl_BestChange.l0 k l0 a1 (List.replicate (ji5 : Int).toNat []) (l0.length : Int) 0) else (none)) else (none)) = some (r1, r2) := by first | (rw [hji5] at H; exact H) | (simp only [hji5] at H ⊢; exact H)
   (try rw [hji5] at A3)
   have hji5w : (IntKind.i64.wrap ((l0.length : Int) + 1)) = ji5 := (i64_w _).trans hji5
   replace H := Ip H; obtain ⟨c6, H⟩ := H
   have c6b0 := eq_true c6
   have c6b1 := decide_eq_true c6
   clear c6
   replace H := Ip H; obtain ⟨c7, H⟩ := H
   have c7b0 := eq_true c7
   have c7b1 := decide_eq_true c7
   clear c7
   obtain ⟨y250, hy250⟩ : ∃ y_ : List (List Int), y_ = (List.replicate (ji5 : Int).toNat []) := ⟨_, rfl⟩
   replace H : (impl_BestChange.l0 k l0 a1 y250 (l0.length : Int) 0) = some (r1, r2) := by first | (rw [hy250]; with_reducible exact H) | (have H2_ := (Option.bind_some _ _).symm.trans H; rw [hy250]; with_reducible exact H2_) | (have H2_ := (Option.bind_some _ _).symm.trans H; with_reducible exact H2_) | with_reducible exact H | (rw [hy250]; exact H) | exact H
   have Ny250 := Aside0.mk hy250
   clear hy250
   have H' := Aside0.mk H
   clear H
   go_enter Try.func9, Try.ntmps9
   go_wp2_with (first | (go_at_call 11; (with_reducible refine (impl_FewestCoins.calls k _ _ l0 a1 t248 true _ (Cm HR0.out) HC0.out A3.out).mono ?_); rintro e w8 ⟨rfl, hb⟩; replace HB := Aside0.mk (below_step Ub hb); clear hb) | ((with_reducible refine gate_dst (N := 25) rfl ?_); refine Kd.S_make (Kd.slice 3 (Kd.int .i64)) _ 24 rfl (N := 25) rfl 55 _ _ rfl ji5 rfl rfl Try.underlying55 (.slice none 0 0) 24 info24 rfl (by decide) (by omega) [] (ok := fun _ => True) (okp := fun _ => True) ⟨_, rfl, Kd.R_nil _ _ _ _ _⟩ (fun _ hk => hk) trivial (Oa) (Nat.le_trans (Nat.mul_le_mul_right _ (Oa : ji5.toNat ≤ 11728124029610)) (by omega)) (Below.refl _ _) (Nat.le_refl _) ?_; intro v251 w9 ho10 hb hg_ hnew_; clear hg_ hnew_; (first | rw [← Ny250.out] at ho10 | (simp only [Int.reduceToNat] at ho10; rw [← Ny250.out] at ho10)); have HO252 := Aside0.mk (Kd.S_lower ho10 (below_size Ub)); replace HB := Aside0.mk (below_step Ub hb); clear hb ho10))
   repeat (go_quiet (first | (go_at_call 11; (with_reducible refine (impl_FewestCoins.calls k _ _ l0 a1 t248 true _ (Cm HR0.out) HC0.out A3.out).mono ?_); rintro e w8 ⟨rfl, hb⟩; replace HB := Aside0.mk (below_step Ub hb); clear hb) | ((with_reducible refine gate_dst (N := 25) rfl ?_); refine Kd.S_make (Kd.slice 3 (Kd.int .i64)) _ 24 rfl (N := 25) rfl 55 _ _ rfl ji5 rfl rfl Try.underlying55 (.slice none 0 0) 24 info24 rfl (by decide) (by omega) [] (ok := fun _ => True) (okp := fun _ => True) ⟨_, rfl, Kd.R_nil _ _ _ _ _⟩ (fun _ hk => hk) trivial (Oa) (Nat.le_trans (Nat.mul_le_mul_right _ (Oa : ji5.toNat ≤ 11728124029610)) (by omega)) (Below.refl _ _) (Nat.le_refl _) ?_; intro v251 w9 ho10 hb hg_ hnew_; clear hg_ hnew_; (first | rw [← Ny250.out] at ho10 | (simp only [Int.reduceToNat] at ho10; rw [← Ny250.out] at ho10)); have HO252 := Aside0.mk (Kd.S_lower ho10 (below_size Ub)); replace HB := Aside0.mk (below_step Ub hb); clear hb ho10)); try go_wp2_with (first | (go_at_call 11; (with_reducible refine (impl_FewestCoins.calls k _ _ l0 a1 t248 true _ (Cm HR0.out) HC0.out A3.out).mono ?_); rintro e w8 ⟨rfl, hb⟩; replace HB := Aside0.mk (below_step Ub hb); clear hb) | ((with_reducible refine gate_dst (N := 25) rfl ?_); refine Kd.S_make (Kd.slice 3 (Kd.int .i64)) _ 24 rfl (N := 25) rfl 55 _ _ rfl ji5 rfl rfl Try.underlying55 (.slice none 0 0) 24 info24 rfl (by decide) (by omega) [] (ok := fun _ => True) (okp := fun _ => True) ⟨_, rfl, Kd.R_nil _ _ _ _ _⟩ (fun _ hk => hk) trivial (Oa) (Nat.le_trans (Nat.mul_le_mul_right _ (Oa : ji5.toNat ≤ 11728124029610)) (by omega)) (Below.refl _ _) (Nat.le_refl _) ?_; intro v251 w9 ho10 hb hg_ hnew_; clear hg_ hnew_; (first | rw [← Ny250.out] at ho10 | (simp only [Int.reduceToNat] at ho10; rw [← Ny250.out] at ho10)); have HO252 := Aside0.mk (Kd.S_lower ho10 (below_size Ub)); replace HB := Aside0.mk (below_step Ub hb); clear hb ho10)))
   go_loopg [28] k (fun kq v28 w' => ∃ (x8_1 : List (List Int)) (x28_1 : Int), v28 = .int .i64 x28_1 ∧ Aside0 (impl_BestChange.l0 kq l0 a1 x8_1 (l0.length : Int) x28_1 = some (r1, r2)) ∧ Aside0 (kq ≤ k) ∧ Aside0 (Kd.S (Kd.slice 3 (Kd.int .i64)) 24 w' w.heap.size (fun _ => True) v251 x8_1) ∧ Aside0 (Below w.heap.size w w'))
   case atStart => exact ⟨(y250), (0), Rs, H', ⟨Nat.le_refl _⟩, ⟨Sm HO252.out⟩, ⟨Ub⟩⟩
   case round =>
    clear H'
    try clear c6
    try clear c6b0
    try clear c6b1
    try clear c7
    try clear c7b0
    try clear c7b1
    obtain ⟨x8_1, x28_1, rfl, HA, HK1, HO_8, HB⟩ := hrel
    cases gk with
    | zero => exact absurd HA.out (by simp [impl_BestChange.l0])
    | succ k1 =>
     have H := HA.out
     clear HA
     simp only [impl_BestChange.l0] at H
     replace H := Ic H; rcases H with ⟨c11, H⟩ | ⟨c11, H⟩
     · have c11b0 := decide_eq_true c11
       clear c11
       replace H := Ip H; obtain ⟨c12, H⟩ := H
       have c12b0 := eq_true c12
       have c12b1 := decide_eq_true c12
       clear c12
       replace H := Ip H; obtain ⟨c13, H⟩ := H
       have c13b0 := eq_true c13
       have c13b1 := decide_eq_true c13
       clear c13
       replace H := Option.bind_eq_some_iff.mp H
       obtain ⟨t254, A140, H⟩ := H
       have A14 := Aside0.mk A140
       clear A140
       replace H := Ip H; obtain ⟨c15, H⟩ := H
       have c15b0 := decide_eq_true c15
       clear c15
       obtain ⟨y257, hy257⟩ : ∃ y_ : List (List Int), y_ = (x8_1.set (x28_1 : Int).toNat t254) := ⟨_, rfl⟩
       replace H : (impl_BestChange.l0 k1 l0 a1 y257 (l0.length : Int) (wrap64 (x28_1 + 1))) = some (r1, r2) := by first | (rw [hy257]; with_reducible exact H) | (have H2_ := (Option.bind_some _ _).symm.trans H; rw [hy257]; with_reducible exact H2_) | (have H2_ := (Option.bind_some _ _).symm.trans H; with_reducible exact H2_) | with_reducible exact H | (rw [hy257]; exact H) | exact H
       have Ny257 := Aside0.mk hy257
       clear hy257
       have H' := Aside0.mk H
       clear H
       obtain ⟨i017, hi017, _, hsz17, _⟩ := info_parts info3
       obtain ⟨A17, hcut17, hA17, hC17⟩ := print_drop_of (P := Try.prog) (Value.int .i64) 0 24 3 .i64 Try.underlying24 hi017 hsz17 A0 c0 l0 x28_1 (Oa) (Oa) HC0.out
       have HR253 : Aside0 (Kd.C (Kd.int .i64) w A17 (l0.drop (x28_1 : Int).toNat).length (l0.drop (x28_1 : Int).toNat)) := ⟨Kd.C_of_reads (h1 := fun _ => rfl) (hA17 _ (Kd.reads_of_C HR0.out))⟩
       have HC253 := Aside0.mk hC17
       clear hA17 hC17 hi017 hsz17
       go_wp2_with (first | (go_at_call 95; (try rw [show (l0.length - (x28_1 : Int).toNat) = (l0.drop (x28_1 : Int).toNat).length from List.length_drop.symm]); (with_reducible refine (impl_fewStamps.calls k1 _ _ (l0.drop (x28_1 : Int).toNat) a1 t254 _ (Cm (Kd.C_below HR253.out HB.out)) HC253.out A14.out).mono ?_); rintro e w18 ⟨v255, rfl, ho0, hb⟩; replace HO_8 := Aside0.mk (Kd.S_elder' (Sm HO_8.out) (Kd.R_base ho0) hb); have HO256 := Aside0.mk (Kd.R_lower ho0 (below_size Ub)); obtain ⟨Av255, cv255, ev255⟩ := Kd.R_slice HO256.out; subst ev255; replace HB := Aside0.mk (below_step Ub hb); clear hb ho0; have p16 : 0 ≤ (x28_1 : Int) := Oa; have q16 : (x28_1 : Int) < ((x8_1.length : Int) : Int) := Oa; obtain ⟨go16, co16, eo16, gb16, gl16, cl16, HG16⟩ := Kd.S_form HO_8.out (by omega); (first | cases eo16 | (injection eo16 with ea_ en_ ec_; (first | subst ea_ | (injection ea_ with ea_; subst ea_)); subst ec_; clear en_)); have GB16 := Aside0.mk gb16; have GG16 := Aside0.mk HG16; clear gb16 gl16 HG16; obtain ⟨_, ce16, hcl16, hM16, hcc16, hfr16, _, _⟩ := Kd.S_elem HO_8.out [] (x28_1 : Int) p16 q16; obtain ⟨ve16_0, rfl, ge16_0⟩ := hM16; have hx16_0 := hcc16 0 _ rfl; have hf16_0 := hfr16 0; (try simp only [show ((Kd.slice 3 (Kd.int .i64))).sz = 1 from rfl, Nat.mul_one, Nat.add_zero] at hx16_0); (try simp only [show ((Kd.slice 3 (Kd.int .i64))).sz = 1 from rfl, Nat.mul_one, Nat.add_zero] at hf16_0); (try simp only [Int.toNat_natCast] at hx16_0 hf16_0); (try clear hcl16); (try clear hcc16); (try clear hfr16); (try clear hM16); replace p16 := eq_true p16; replace q16 := eq_true q16; have n_ := Aside0.mk (Kd.S_mono (ok' := (fun k_ => some k_ ≠ ((.slice Av255 t254.length cv255) : Value).ownBlock)) HO_8.out (fun k_ hk => hk.2)); clear HO_8; have HO_8 := n_; clear n_; have HX19 := Aside0.mk (show Kd.S (Kd.slice 3 (Kd.int .i64)) 24 w18 w.heap.size (fun k_ => ((fun _ => True)) k_ ∧ ¬ ((fun k_ => some k_ = ((.slice Av255 t254.length cv255) : Value).ownBlock)) k_) (.slice (some ⟨go16, 0, none⟩) x8_1.length co16) x8_1 from (by (with_reducible repeat (first | apply Kd.S_alloc | apply Kd.S_drewN | apply Kd.S_drew)); exact Kd.S_mono HO_8.out (fun k_ hk => ⟨trivial, fun e_ => hk e_⟩))); obtain ⟨oki19, ce19, hcl19, hM19, hcc19, hfr19, hoki19, hH19⟩ := Kd.S_elem HX19.out [] (x28_1 : Int) (Oa) (by have h_ : (x28_1 : Int) < ((x8_1.length : Int) : Int) := Oa; first | exact h_ | (have e_ := (Kd.S_reads' HO_8.out).1; omega) | simpa using h_); obtain ⟨ve19_0, rfl, ge19_0⟩ := hM19; have HP19 := Kd.S_seg hH19 (Oa) (by have h_ : (x28_1 : Int) < ((x8_1.length : Int) : Int) := Oa; first | exact h_ | (have e_ := (Kd.S_reads' HO_8.out).1; omega) | simpa using h_) (seg := [(.slice Av255 t254.length cv255)]) (j := 0) (show 1 ≤ 1 from by decide) (x' := t254) (Kd.M_row (Kd.R_mono (Kd.R_tight rfl (Kd.R_mono (ok' := fun k_ => ((fun _ => True)) k_ ∧ k_ ≠ go16) (Kd.R_apart' (HO256.out) (Kd.S_typed HO_8.out) (by decide)) (fun k_ hk => ⟨trivial, fun e_ => (hk.2) (by rw [e_]; rfl)⟩))) (fun _ h_ => Or.inr (h_)))) (fun _ hk => hk) (fun k_ hk_ => ((Kd.R_mono (ok' := fun k_ => ((fun _ => True)) k_ ∧ k_ ≠ go16) (Kd.R_apart' (HO256.out) (Kd.S_typed HO_8.out) (by decide)) (fun k_ hk => ⟨trivial, fun e_ => (hk.2) (by rw [e_]; rfl)⟩))).1 k_ hk_.symm); have hx19_0 := hcc19 0 _ rfl; (try simp only [show ((Kd.slice 3 (Kd.int .i64))).sz = 1 from rfl, Nat.mul_one, Nat.add_zero] at hx19_0); have hf19_0 := hfr19 0; (try simp only [show ((Kd.slice 3 (Kd.int .i64))).sz = 1 from rfl, Nat.mul_one, Nat.add_zero] at hf19_0); (try simp only [Int.toNat_natCast] at hx19_0 hf19_0); (try clear hcl19); (try clear hcc19); (try clear hfr19); (try clear hM19); (try clear hoki19); (try clear hH19); (try simp only [show ((Kd.slice 3 (Kd.int .i64))).sz = 1 from rfl, Nat.mul_one, Nat.add_zero] at HP19)) | ((with_reducible refine gate_store (t := 24) (p := 38) rfl ?_); (try (rw [drewN_self w18]; generalize hq_ : World.drewN w18 _ = w18; replace HO_8 := Aside0.mk (Kd.S_at hq_ HO_8.out); replace HB := Aside0.mk (below_at hq_ HB.out); clear hq_; (try (have n_ := Aside0.mk (Kd.S_mono (ok' := (fun k_ => some k_ ≠ ((.slice Av255 t254.length cv255) : Value).ownBlock)) HO_8.out (fun k_ hk => hk.2)); clear HO_8; have HO_8 := n_; clear n_)); (try (have HX19 := Aside0.mk (show Kd.S (Kd.slice 3 (Kd.int .i64)) 24 w18 w.heap.size (fun k_ => ((fun _ => True)) k_ ∧ ¬ ((fun k_ => some k_ = ((.slice Av255 t254.length cv255) : Value).ownBlock)) k_) (.slice (some ⟨go16, 0, none⟩) x8_1.length co16) x8_1 from (by (with_reducible repeat (first | apply Kd.S_alloc | apply Kd.S_drewN | apply Kd.S_drew)); exact Kd.S_mono HO_8.out (fun k_ hk => ⟨trivial, fun e_ => hk e_⟩))))); (try (obtain ⟨oki19, ce19, hcl19, hM19, hcc19, hfr19, hoki19, hH19⟩ := Kd.S_elem HX19.out [] (x28_1 : Int) (Oa) (by have h_ : (x28_1 : Int) < ((x8_1.length : Int) : Int) := Oa; first | exact h_ | (have e_ := (Kd.S_reads' HO_8.out).1; omega) | simpa using h_))); (try (obtain ⟨ve19_0, rfl, ge19_0⟩ := hM19)); (try (have HP19 := Kd.S_seg hH19 (Oa) (by have h_ : (x28_1 : Int) < ((x8_1.length : Int) : Int) := Oa; first | exact h_ | (have e_ := (Kd.S_reads' HO_8.out).1; omega) | simpa using h_) (seg := [(.slice Av255 t254.length cv255)]) (j := 0) (show 1 ≤ 1 from by decide) (x' := t254) (Kd.M_row (Kd.R_mono (Kd.R_tight rfl (Kd.R_mono (ok' := fun k_ => ((fun _ => True)) k_ ∧ k_ ≠ go16) (Kd.R_apart' (HO256.out) (Kd.S_typed HO_8.out) (by decide)) (fun k_ hk => ⟨trivial, fun e_ => (hk.2) (by rw [e_]; rfl)⟩))) (fun _ h_ => Or.inr (h_)))) (fun _ hk => hk) (fun k_ hk_ => ((Kd.R_mono (ok' := fun k_ => ((fun _ => True)) k_ ∧ k_ ≠ go16) (Kd.R_apart' (HO256.out) (Kd.S_typed HO_8.out) (by decide)) (fun k_ hk => ⟨trivial, fun e_ => (hk.2) (by rw [e_]; rfl)⟩))).1 k_ hk_.symm))); (try (have hx19_0 := hcc19 0 _ rfl)); (try (try simp only [show ((Kd.slice 3 (Kd.int .i64))).sz = 1 from rfl, Nat.mul_one, Nat.add_zero] at hx19_0)); (try (have hf19_0 := hfr19 0)); (try (try simp only [show ((Kd.slice 3 (Kd.int .i64))).sz = 1 from rfl, Nat.mul_one, Nat.add_zero] at hf19_0); (try simp only [Int.toNat_natCast] at hx19_0 hf19_0)); (try ((try clear hcl19); (try clear hcc19); (try clear hfr19); (try clear hM19); (try clear hoki19); (try clear hH19))); (try (try simp only [show ((Kd.slice 3 (Kd.int .i64))).sz = 1 from rfl, Nat.mul_one, Nat.add_zero] at HP19)))); refine store_event (t := 24) (p := 38) (v := ?vo_w20) (w1 := (w18.setCell ⟨go16, (x28_1 : Int).toNat, none⟩ ((.slice Av255 t254.length cv255)))) ?hg ?ho ?hn ?hr ?_; (case ho => rfl); (case hg => rfl); (case hn => rfl); (case hr => first | (go_simp; done) | (go_simp; rfl)); intro w20 hw; have hg : w18.grownBy w20 (some go16) := (by rw [hw]; exact HP19.2); have hp_ : Kd.S (Kd.slice 3 (Kd.int .i64)) 24 w20 w.heap.size (fun _ => True) (.slice (some ⟨go16, 0, none⟩) x8_1.length co16) y257 := (by rw [hw, Ny257.out]; exact HP19.1); clear HP19; replace HO_8 := Aside0.mk (hp_); replace HB := Aside0.mk ((by rw [hw]; exact below_set (HB.out) GB16.out : Below w.heap.size w w20)); clear HO256; clear hg hw hp_))
       repeat (go_quiet (first | (go_at_call 95; (try rw [show (l0.length - (x28_1 : Int).toNat) = (l0.drop (x28_1 : Int).toNat).length from List.length_drop.symm]); (with_reducible refine (impl_fewStamps.calls k1 _ _ (l0.drop (x28_1 : Int).toNat) a1 t254 _ (Cm (Kd.C_below HR253.out HB.out)) HC253.out A14.out).mono ?_); rintro e w18 ⟨v255, rfl, ho0, hb⟩; replace HO_8 := Aside0.mk (Kd.S_elder' (Sm HO_8.out) (Kd.R_base ho0) hb); have HO256 := Aside0.mk (Kd.R_lower ho0 (below_size Ub)); obtain ⟨Av255, cv255, ev255⟩ := Kd.R_slice HO256.out; subst ev255; replace HB := Aside0.mk (below_step Ub hb); clear hb ho0; have p16 : 0 ≤ (x28_1 : Int) := Oa; have q16 : (x28_1 : Int) < ((x8_1.length : Int) : Int) := Oa; obtain ⟨go16, co16, eo16, gb16, gl16, cl16, HG16⟩ := Kd.S_form HO_8.out (by omega); (first | cases eo16 | (injection eo16 with ea_ en_ ec_; (first | subst ea_ | (injection ea_ with ea_; subst ea_)); subst ec_; clear en_)); have GB16 := Aside0.mk gb16; have GG16 := Aside0.mk HG16; clear gb16 gl16 HG16; obtain ⟨_, ce16, hcl16, hM16, hcc16, hfr16, _, _⟩ := Kd.S_elem HO_8.out [] (x28_1 : Int) p16 q16; obtain ⟨ve16_0, rfl, ge16_0⟩ := hM16; have hx16_0 := hcc16 0 _ rfl; have hf16_0 := hfr16 0; (try simp only [show ((Kd.slice 3 (Kd.int .i64))).sz = 1 from rfl, Nat.mul_one, Nat.add_zero] at hx16_0); (try simp only [show ((Kd.slice 3 (Kd.int .i64))).sz = 1 from rfl, Nat.mul_one, Nat.add_zero] at hf16_0); (try simp only [Int.toNat_natCast] at hx16_0 hf16_0); (try clear hcl16); (try clear hcc16); (try clear hfr16); (try clear hM16); replace p16 := eq_true p16; replace q16 := eq_true q16; have n_ := Aside0.mk (Kd.S_mono (ok' := (fun k_ => some k_ ≠ ((.slice Av255 t254.length cv255) : Value).ownBlock)) HO_8.out (fun k_ hk => hk.2)); clear HO_8; have HO_8 := n_; clear n_; have HX19 := Aside0.mk (show Kd.S (Kd.slice 3 (Kd.int .i64)) 24 w18 w.heap.size (fun k_ => ((fun _ => True)) k_ ∧ ¬ ((fun k_ => some k_ = ((.slice Av255 t254.length cv255) : Value).ownBlock)) k_) (.slice (some ⟨go16, 0, none⟩) x8_1.length co16) x8_1 from (by (with_reducible repeat (first | apply Kd.S_alloc | apply Kd.S_drewN | apply Kd.S_drew)); exact Kd.S_mono HO_8.out (fun k_ hk => ⟨trivial, fun e_ => hk e_⟩))); obtain ⟨oki19, ce19, hcl19, hM19, hcc19, hfr19, hoki19, hH19⟩ := Kd.S_elem HX19.out [] (x28_1 : Int) (Oa) (by have h_ : (x28_1 : Int) < ((x8_1.length : Int) : Int) := Oa; first | exact h_ | (have e_ := (Kd.S_reads' HO_8.out).1; omega) | simpa using h_); obtain ⟨ve19_0, rfl, ge19_0⟩ := hM19; have HP19 := Kd.S_seg hH19 (Oa) (by have h_ : (x28_1 : Int) < ((x8_1.length : Int) : Int) := Oa; first | exact h_ | (have e_ := (Kd.S_reads' HO_8.out).1; omega) | simpa using h_) (seg := [(.slice Av255 t254.length cv255)]) (j := 0) (show 1 ≤ 1 from by decide) (x' := t254) (Kd.M_row (Kd.R_mono (Kd.R_tight rfl (Kd.R_mono (ok' := fun k_ => ((fun _ => True)) k_ ∧ k_ ≠ go16) (Kd.R_apart' (HO256.out) (Kd.S_typed HO_8.out) (by decide)) (fun k_ hk => ⟨trivial, fun e_ => (hk.2) (by rw [e_]; rfl)⟩))) (fun _ h_ => Or.inr (h_)))) (fun _ hk => hk) (fun k_ hk_ => ((Kd.R_mono (ok' := fun k_ => ((fun _ => True)) k_ ∧ k_ ≠ go16) (Kd.R_apart' (HO256.out) (Kd.S_typed HO_8.out) (by decide)) (fun k_ hk => ⟨trivial, fun e_ => (hk.2) (by rw [e_]; rfl)⟩))).1 k_ hk_.symm); have hx19_0 := hcc19 0 _ rfl; (try simp only [show ((Kd.slice 3 (Kd.int .i64))).sz = 1 from rfl, Nat.mul_one, Nat.add_zero] at hx19_0); have hf19_0 := hfr19 0; (try simp only [show ((Kd.slice 3 (Kd.int .i64))).sz = 1 from rfl, Nat.mul_one, Nat.add_zero] at hf19_0); (try simp only [Int.toNat_natCast] at hx19_0 hf19_0); (try clear hcl19); (try clear hcc19); (try clear hfr19); (try clear hM19); (try clear hoki19); (try clear hH19); (try simp only [show ((Kd.slice 3 (Kd.int .i64))).sz = 1 from rfl, Nat.mul_one, Nat.add_zero] at HP19)) | ((with_reducible refine gate_store (t := 24) (p := 38) rfl ?_); (try (rw [drewN_self w18]; generalize hq_ : World.drewN w18 _ = w18; replace HO_8 := Aside0.mk (Kd.S_at hq_ HO_8.out); replace HB := Aside0.mk (below_at hq_ HB.out); clear hq_; (try (have n_ := Aside0.mk (Kd.S_mono (ok' := (fun k_ => some k_ ≠ ((.slice Av255 t254.length cv255) : Value).ownBlock)) HO_8.out (fun k_ hk => hk.2)); clear HO_8; have HO_8 := n_; clear n_)); (try (have HX19 := Aside0.mk (show Kd.S (Kd.slice 3 (Kd.int .i64)) 24 w18 w.heap.size (fun k_ => ((fun _ => True)) k_ ∧ ¬ ((fun k_ => some k_ = ((.slice Av255 t254.length cv255) : Value).ownBlock)) k_) (.slice (some ⟨go16, 0, none⟩) x8_1.length co16) x8_1 from (by (with_reducible repeat (first | apply Kd.S_alloc | apply Kd.S_drewN | apply Kd.S_drew)); exact Kd.S_mono HO_8.out (fun k_ hk => ⟨trivial, fun e_ => hk e_⟩))))); (try (obtain ⟨oki19, ce19, hcl19, hM19, hcc19, hfr19, hoki19, hH19⟩ := Kd.S_elem HX19.out [] (x28_1 : Int) (Oa) (by have h_ : (x28_1 : Int) < ((x8_1.length : Int) : Int) := Oa; first | exact h_ | (have e_ := (Kd.S_reads' HO_8.out).1; omega) | simpa using h_))); (try (obtain ⟨ve19_0, rfl, ge19_0⟩ := hM19)); (try (have HP19 := Kd.S_seg hH19 (Oa) (by have h_ : (x28_1 : Int) < ((x8_1.length : Int) : Int) := Oa; first | exact h_ | (have e_ := (Kd.S_reads' HO_8.out).1; omega) | simpa using h_) (seg := [(.slice Av255 t254.length cv255)]) (j := 0) (show 1 ≤ 1 from by decide) (x' := t254) (Kd.M_row (Kd.R_mono (Kd.R_tight rfl (Kd.R_mono (ok' := fun k_ => ((fun _ => True)) k_ ∧ k_ ≠ go16) (Kd.R_apart' (HO256.out) (Kd.S_typed HO_8.out) (by decide)) (fun k_ hk => ⟨trivial, fun e_ => (hk.2) (by rw [e_]; rfl)⟩))) (fun _ h_ => Or.inr (h_)))) (fun _ hk => hk) (fun k_ hk_ => ((Kd.R_mono (ok' := fun k_ => ((fun _ => True)) k_ ∧ k_ ≠ go16) (Kd.R_apart' (HO256.out) (Kd.S_typed HO_8.out) (by decide)) (fun k_ hk => ⟨trivial, fun e_ => (hk.2) (by rw [e_]; rfl)⟩))).1 k_ hk_.symm))); (try (have hx19_0 := hcc19 0 _ rfl)); (try (try simp only [show ((Kd.slice 3 (Kd.int .i64))).sz = 1 from rfl, Nat.mul_one, Nat.add_zero] at hx19_0)); (try (have hf19_0 := hfr19 0)); (try (try simp only [show ((Kd.slice 3 (Kd.int .i64))).sz = 1 from rfl, Nat.mul_one, Nat.add_zero] at hf19_0); (try simp only [Int.toNat_natCast] at hx19_0 hf19_0)); (try ((try clear hcl19); (try clear hcc19); (try clear hfr19); (try clear hM19); (try clear hoki19); (try clear hH19))); (try (try simp only [show ((Kd.slice 3 (Kd.int .i64))).sz = 1 from rfl, Nat.mul_one, Nat.add_zero] at HP19)))); refine store_event (t := 24) (p := 38) (v := ?vo_w20) (w1 := (w18.setCell ⟨go16, (x28_1 : Int).toNat, none⟩ ((.slice Av255 t254.length cv255)))) ?hg ?ho ?hn ?hr ?_; (case ho => rfl); (case hg => rfl); (case hn => rfl); (case hr => first | (go_simp; done) | (go_simp; rfl)); intro w20 hw; have hg : w18.grownBy w20 (some go16) := (by rw [hw]; exact HP19.2); have hp_ : Kd.S (Kd.slice 3 (Kd.int .i64)) 24 w20 w.heap.size (fun _ => True) (.slice (some ⟨go16, 0, none⟩) x8_1.length co16) y257 := (by rw [hw, Ny257.out]; exact HP19.1); clear HP19; replace HO_8 := Aside0.mk (hp_); replace HB := Aside0.mk ((by rw [hw]; exact below_set (HB.out) GB16.out : Below w.heap.size w w20)); clear HO256; clear hg hw hp_)); try go_wp2_with (first | (go_at_call 95; (try rw [show (l0.length - (x28_1 : Int).toNat) = (l0.drop (x28_1 : Int).toNat).length from List.length_drop.symm]); (with_reducible refine (impl_fewStamps.calls k1 _ _ (l0.drop (x28_1 : Int).toNat) a1 t254 _ (Cm (Kd.C_below HR253.out HB.out)) HC253.out A14.out).mono ?_); rintro e w18 ⟨v255, rfl, ho0, hb⟩; replace HO_8 := Aside0.mk (Kd.S_elder' (Sm HO_8.out) (Kd.R_base ho0) hb); have HO256 := Aside0.mk (Kd.R_lower ho0 (below_size Ub)); obtain ⟨Av255, cv255, ev255⟩ := Kd.R_slice HO256.out; subst ev255; replace HB := Aside0.mk (below_step Ub hb); clear hb ho0; have p16 : 0 ≤ (x28_1 : Int) := Oa; have q16 : (x28_1 : Int) < ((x8_1.length : Int) : Int) := Oa; obtain ⟨go16, co16, eo16, gb16, gl16, cl16, HG16⟩ := Kd.S_form HO_8.out (by omega); (first | cases eo16 | (injection eo16 with ea_ en_ ec_; (first | subst ea_ | (injection ea_ with ea_; subst ea_)); subst ec_; clear en_)); have GB16 := Aside0.mk gb16; have GG16 := Aside0.mk HG16; clear gb16 gl16 HG16; obtain ⟨_, ce16, hcl16, hM16, hcc16, hfr16, _, _⟩ := Kd.S_elem HO_8.out [] (x28_1 : Int) p16 q16; obtain ⟨ve16_0, rfl, ge16_0⟩ := hM16; have hx16_0 := hcc16 0 _ rfl; have hf16_0 := hfr16 0; (try simp only [show ((Kd.slice 3 (Kd.int .i64))).sz = 1 from rfl, Nat.mul_one, Nat.add_zero] at hx16_0); (try simp only [show ((Kd.slice 3 (Kd.int .i64))).sz = 1 from rfl, Nat.mul_one, Nat.add_zero] at hf16_0); (try simp only [Int.toNat_natCast] at hx16_0 hf16_0); (try clear hcl16); (try clear hcc16); (try clear hfr16); (try clear hM16); replace p16 := eq_true p16; replace q16 := eq_true q16; have n_ := Aside0.mk (Kd.S_mono (ok' := (fun k_ => some k_ ≠ ((.slice Av255 t254.length cv255) : Value).ownBlock)) HO_8.out (fun k_ hk => hk.2)); clear HO_8; have HO_8 := n_; clear n_; have HX19 := Aside0.mk (show Kd.S (Kd.slice 3 (Kd.int .i64)) 24 w18 w.heap.size (fun k_ => ((fun _ => True)) k_ ∧ ¬ ((fun k_ => some k_ = ((.slice Av255 t254.length cv255) : Value).ownBlock)) k_) (.slice (some ⟨go16, 0, none⟩) x8_1.length co16) x8_1 from (by (with_reducible repeat (first | apply Kd.S_alloc | apply Kd.S_drewN | apply Kd.S_drew)); exact Kd.S_mono HO_8.out (fun k_ hk => ⟨trivial, fun e_ => hk e_⟩))); obtain ⟨oki19, ce19, hcl19, hM19, hcc19, hfr19, hoki19, hH19⟩ := Kd.S_elem HX19.out [] (x28_1 : Int) (Oa) (by have h_ : (x28_1 : Int) < ((x8_1.length : Int) : Int) := Oa; first | exact h_ | (have e_ := (Kd.S_reads' HO_8.out).1; omega) | simpa using h_); obtain ⟨ve19_0, rfl, ge19_0⟩ := hM19; have HP19 := Kd.S_seg hH19 (Oa) (by have h_ : (x28_1 : Int) < ((x8_1.length : Int) : Int) := Oa; first | exact h_ | (have e_ := (Kd.S_reads' HO_8.out).1; omega) | simpa using h_) (seg := [(.slice Av255 t254.length cv255)]) (j := 0) (show 1 ≤ 1 from by decide) (x' := t254) (Kd.M_row (Kd.R_mono (Kd.R_tight rfl (Kd.R_mono (ok' := fun k_ => ((fun _ => True)) k_ ∧ k_ ≠ go16) (Kd.R_apart' (HO256.out) (Kd.S_typed HO_8.out) (by decide)) (fun k_ hk => ⟨trivial, fun e_ => (hk.2) (by rw [e_]; rfl)⟩))) (fun _ h_ => Or.inr (h_)))) (fun _ hk => hk) (fun k_ hk_ => ((Kd.R_mono (ok' := fun k_ => ((fun _ => True)) k_ ∧ k_ ≠ go16) (Kd.R_apart' (HO256.out) (Kd.S_typed HO_8.out) (by decide)) (fun k_ hk => ⟨trivial, fun e_ => (hk.2) (by rw [e_]; rfl)⟩))).1 k_ hk_.symm); have hx19_0 := hcc19 0 _ rfl; (try simp only [show ((Kd.slice 3 (Kd.int .i64))).sz = 1 from rfl, Nat.mul_one, Nat.add_zero] at hx19_0); have hf19_0 := hfr19 0; (try simp only [show ((Kd.slice 3 (Kd.int .i64))).sz = 1 from rfl, Nat.mul_one, Nat.add_zero] at hf19_0); (try simp only [Int.toNat_natCast] at hx19_0 hf19_0); (try clear hcl19); (try clear hcc19); (try clear hfr19); (try clear hM19); (try clear hoki19); (try clear hH19); (try simp only [show ((Kd.slice 3 (Kd.int .i64))).sz = 1 from rfl, Nat.mul_one, Nat.add_zero] at HP19)) | ((with_reducible refine gate_store (t := 24) (p := 38) rfl ?_); (try (rw [drewN_self w18]; generalize hq_ : World.drewN w18 _ = w18; replace HO_8 := Aside0.mk (Kd.S_at hq_ HO_8.out); replace HB := Aside0.mk (below_at hq_ HB.out); clear hq_; (try (have n_ := Aside0.mk (Kd.S_mono (ok' := (fun k_ => some k_ ≠ ((.slice Av255 t254.length cv255) : Value).ownBlock)) HO_8.out (fun k_ hk => hk.2)); clear HO_8; have HO_8 := n_; clear n_)); (try (have HX19 := Aside0.mk (show Kd.S (Kd.slice 3 (Kd.int .i64)) 24 w18 w.heap.size (fun k_ => ((fun _ => True)) k_ ∧ ¬ ((fun k_ => some k_ = ((.slice Av255 t254.length cv255) : Value).ownBlock)) k_) (.slice (some ⟨go16, 0, none⟩) x8_1.length co16) x8_1 from (by (with_reducible repeat (first | apply Kd.S_alloc | apply Kd.S_drewN | apply Kd.S_drew)); exact Kd.S_mono HO_8.out (fun k_ hk => ⟨trivial, fun e_ => hk e_⟩))))); (try (obtain ⟨oki19, ce19, hcl19, hM19, hcc19, hfr19, hoki19, hH19⟩ := Kd.S_elem HX19.out [] (x28_1 : Int) (Oa) (by have h_ : (x28_1 : Int) < ((x8_1.length : Int) : Int) := Oa; first | exact h_ | (have e_ := (Kd.S_reads' HO_8.out).1; omega) | simpa using h_))); (try (obtain ⟨ve19_0, rfl, ge19_0⟩ := hM19)); (try (have HP19 := Kd.S_seg hH19 (Oa) (by have h_ : (x28_1 : Int) < ((x8_1.length : Int) : Int) := Oa; first | exact h_ | (have e_ := (Kd.S_reads' HO_8.out).1; omega) | simpa using h_) (seg := [(.slice Av255 t254.length cv255)]) (j := 0) (show 1 ≤ 1 from by decide) (x' := t254) (Kd.M_row (Kd.R_mono (Kd.R_tight rfl (Kd.R_mono (ok' := fun k_ => ((fun _ => True)) k_ ∧ k_ ≠ go16) (Kd.R_apart' (HO256.out) (Kd.S_typed HO_8.out) (by decide)) (fun k_ hk => ⟨trivial, fun e_ => (hk.2) (by rw [e_]; rfl)⟩))) (fun _ h_ => Or.inr (h_)))) (fun _ hk => hk) (fun k_ hk_ => ((Kd.R_mono (ok' := fun k_ => ((fun _ => True)) k_ ∧ k_ ≠ go16) (Kd.R_apart' (HO256.out) (Kd.S_typed HO_8.out) (by decide)) (fun k_ hk => ⟨trivial, fun e_ => (hk.2) (by rw [e_]; rfl)⟩))).1 k_ hk_.symm))); (try (have hx19_0 := hcc19 0 _ rfl)); (try (try simp only [show ((Kd.slice 3 (Kd.int .i64))).sz = 1 from rfl, Nat.mul_one, Nat.add_zero] at hx19_0)); (try (have hf19_0 := hfr19 0)); (try (try simp only [show ((Kd.slice 3 (Kd.int .i64))).sz = 1 from rfl, Nat.mul_one, Nat.add_zero] at hf19_0); (try simp only [Int.toNat_natCast] at hx19_0 hf19_0)); (try ((try clear hcl19); (try clear hcc19); (try clear hfr19); (try clear hM19); (try clear hoki19); (try clear hH19))); (try (try simp only [show ((Kd.slice 3 (Kd.int .i64))).sz = 1 from rfl, Nat.mul_one, Nat.add_zero] at HP19)))); refine store_event (t := 24) (p := 38) (v := ?vo_w20) (w1 := (w18.setCell ⟨go16, (x28_1 : Int).toNat, none⟩ ((.slice Av255 t254.length cv255)))) ?hg ?ho ?hn ?hr ?_; (case ho => rfl); (case hg => rfl); (case hn => rfl); (case hr => first | (go_simp; done) | (go_simp; rfl)); intro w20 hw; have hg : w18.grownBy w20 (some go16) := (by rw [hw]; exact HP19.2); have hp_ : Kd.S (Kd.slice 3 (Kd.int .i64)) 24 w20 w.heap.size (fun _ => True) (.slice (some ⟨go16, 0, none⟩) x8_1.length co16) y257 := (by rw [hw, Ny257.out]; exact HP19.1); clear HP19; replace HO_8 := Aside0.mk (hp_); replace HB := Aside0.mk ((by rw [hw]; exact below_set (HB.out) GB16.out : Below w.heap.size w w20)); clear HO256; clear hg hw hp_)))
       go_roundg k1
       case measure => have := HK1.out; omega
       case rel => exact ⟨(y257), (wrap64 (x28_1 + 1)), Rs, H', ⟨by have := HK1.out; omega⟩, ⟨Sm HO_8.out⟩, ⟨Ub⟩⟩
     have c11b0 := decide_eq_false c11
     clear c11
     replace H := Option.bind_eq_some_iff.mp H
     obtain ⟨t258, A210, H⟩ := H
     have A21 := Aside0.mk A210
     clear A210
     replace H := Ip H; obtain ⟨c22, H⟩ := H
     have c22b0 := decide_eq_true c22
     have c22b1 : decide (0 ≤ l0.length) = true := decide_eq_true (by omega)
     clear c22
     replace H := Ip H; obtain ⟨c23, H⟩ := H
     have c23b0 := decide_eq_true c23
     have c23b1 : decide (l0.length < x8_1.length) = true := decide_eq_true (Int.ofNat_lt.mp c23)
     clear c23
     obtain ⟨y261, hy261⟩ : ∃ y_ : List (List Int), y_ = (x8_1.set ((l0.length : Int) : Int).toNat t258) := ⟨_, rfl⟩
     replace H : (impl_BestChange.l1 k1 a1 y261 (([] : List Int)) l0 (l0.length : Int) 0) = some (r1, r2) := by first | (rw [hy261]; with_reducible exact H) | (have H2_ := (Option.bind_some _ _).symm.trans H; rw [hy261]; with_reducible exact H2_) | (have H2_ := (Option.bind_some _ _).symm.trans H; with_reducible exact H2_) | with_reducible exact H | (rw [hy261]; exact H) | exact H
     have Ny261 := Aside0.mk hy261
     clear hy261
     obtain ⟨y262, hy262⟩ : ∃ y_ : List Int, y_ = (([] : List Int)) := ⟨_, rfl⟩
     replace H : (impl_BestChange.l1 k1 a1 y261 y262 l0 (l0.length : Int) 0) = some (r1, r2) := by first | (rw [hy262]; with_reducible exact H) | (have H2_ := (Option.bind_some _ _).symm.trans H; rw [hy262]; with_reducible exact H2_) | (have H2_ := (Option.bind_some _ _).symm.trans H; with_reducible exact H2_) | with_reducible exact H | (rw [hy262]; exact H) | exact H
     have Ny262 := Aside0.mk hy262
     clear hy262
     have H' := Aside0.mk H
     clear H
     go_wp2_with (first | (go_at_call 95; (refine (impl_fewStamps.calls k1 _ _ ([] : List Int) a1 t258 _ ?side1 ?side2 A21.out).mono ?_); (case side1 => exact Kd.C_nil _ _); (case side2 => exact Nat.le_refl _); rintro e w25 ⟨v259, rfl, ho0, hb⟩; replace HO_8 := Aside0.mk (Kd.S_elder' (Sm HO_8.out) (Kd.R_base ho0) hb); have HO260 := Aside0.mk (Kd.R_lower ho0 (below_size Ub)); obtain ⟨Av259, cv259, ev259⟩ := Kd.R_slice HO260.out; subst ev259; replace HB := Aside0.mk (below_step Ub hb); clear hb ho0; have p24 : 0 ≤ ((l0.length : Int) : Int) := Oa; have q24 : ((l0.length : Int) : Int) < ((x8_1.length : Int) : Int) := Oa; obtain ⟨go24, co24, eo24, gb24, gl24, cl24, HG24⟩ := Kd.S_form HO_8.out (by omega); (first | cases eo24 | (injection eo24 with ea_ en_ ec_; (first | subst ea_ | (injection ea_ with ea_; subst ea_)); subst ec_; clear en_)); have GB24 := Aside0.mk gb24; have GG24 := Aside0.mk HG24; clear gb24 gl24 HG24; obtain ⟨_, ce24, hcl24, hM24, hcc24, hfr24, _, _⟩ := Kd.S_elem HO_8.out [] ((l0.length : Int) : Int) p24 q24; obtain ⟨ve24_0, rfl, ge24_0⟩ := hM24; have hx24_0 := hcc24 0 _ rfl; have hf24_0 := hfr24 0; (try simp only [show ((Kd.slice 3 (Kd.int .i64))).sz = 1 from rfl, Nat.mul_one, Nat.add_zero] at hx24_0); (try simp only [show ((Kd.slice 3 (Kd.int .i64))).sz = 1 from rfl, Nat.mul_one, Nat.add_zero] at hf24_0); (try simp only [Int.toNat_natCast] at hx24_0 hf24_0); (try clear hcl24); (try clear hcc24); (try clear hfr24); (try clear hM24); replace p24 := eq_true p24; replace q24 := eq_true q24; have n_ := Aside0.mk (Kd.S_mono (ok' := (fun k_ => some k_ ≠ ((.slice Av259 t258.length cv259) : Value).ownBlock)) HO_8.out (fun k_ hk => hk.2)); clear HO_8; have HO_8 := n_; clear n_; have HX26 := Aside0.mk (show Kd.S (Kd.slice 3 (Kd.int .i64)) 24 w25 w.heap.size (fun k_ => ((fun _ => True)) k_ ∧ ¬ ((fun k_ => some k_ = ((.slice Av259 t258.length cv259) : Value).ownBlock)) k_) (.slice (some ⟨go24, 0, none⟩) x8_1.length co24) x8_1 from (by (with_reducible repeat (first | apply Kd.S_alloc | apply Kd.S_drewN | apply Kd.S_drew)); exact Kd.S_mono HO_8.out (fun k_ hk => ⟨trivial, fun e_ => hk e_⟩))); obtain ⟨oki26, ce26, hcl26, hM26, hcc26, hfr26, hoki26, hH26⟩ := Kd.S_elem HX26.out [] ((l0.length : Int) : Int) (Oa) (by have h_ : ((l0.length : Int) : Int) < ((x8_1.length : Int) : Int) := Oa; first | exact h_ | (have e_ := (Kd.S_reads' HO_8.out).1; omega) | simpa using h_); obtain ⟨ve26_0, rfl, ge26_0⟩ := hM26; have HP26 := Kd.S_seg hH26 (Oa) (by have h_ : ((l0.length : Int) : Int) < ((x8_1.length : Int) : Int) := Oa; first | exact h_ | (have e_ := (Kd.S_reads' HO_8.out).1; omega) | simpa using h_) (seg := [(.slice Av259 t258.length cv259)]) (j := 0) (show 1 ≤ 1 from by decide) (x' := t258) (Kd.M_row (Kd.R_mono (Kd.R_tight rfl (Kd.R_mono (ok' := fun k_ => ((fun _ => True)) k_ ∧ k_ ≠ go24) (Kd.R_apart' (HO260.out) (Kd.S_typed HO_8.out) (by decide)) (fun k_ hk => ⟨trivial, fun e_ => (hk.2) (by rw [e_]; rfl)⟩))) (fun _ h_ => Or.inr (h_)))) (fun _ hk => hk) (fun k_ hk_ => ((Kd.R_mono (ok' := fun k_ => ((fun _ => True)) k_ ∧ k_ ≠ go24) (Kd.R_apart' (HO260.out) (Kd.S_typed HO_8.out) (by decide)) (fun k_ hk => ⟨trivial, fun e_ => (hk.2) (by rw [e_]; rfl)⟩))).1 k_ hk_.symm); have hx26_0 := hcc26 0 _ rfl; (try simp only [show ((Kd.slice 3 (Kd.int .i64))).sz = 1 from rfl, Nat.mul_one, Nat.add_zero] at hx26_0); have hf26_0 := hfr26 0; (try simp only [show ((Kd.slice 3 (Kd.int .i64))).sz = 1 from rfl, Nat.mul_one, Nat.add_zero] at hf26_0); (try simp only [Int.toNat_natCast] at hx26_0 hf26_0); (try clear hcl26); (try clear hcc26); (try clear hfr26); (try clear hM26); (try clear hoki26); (try clear hH26); (try simp only [show ((Kd.slice 3 (Kd.int .i64))).sz = 1 from rfl, Nat.mul_one, Nat.add_zero] at HP26)) | ((with_reducible refine gate_store (t := 24) (p := 45) rfl ?_); (try (rw [drewN_self w25]; generalize hq_ : World.drewN w25 _ = w25; replace HO_8 := Aside0.mk (Kd.S_at hq_ HO_8.out); replace HB := Aside0.mk (below_at hq_ HB.out); clear hq_; (try (have n_ := Aside0.mk (Kd.S_mono (ok' := (fun k_ => some k_ ≠ ((.slice Av259 t258.length cv259) : Value).ownBlock)) HO_8.out (fun k_ hk => hk.2)); clear HO_8; have HO_8 := n_; clear n_)); (try (have HX26 := Aside0.mk (show Kd.S (Kd.slice 3 (Kd.int .i64)) 24 w25 w.heap.size (fun k_ => ((fun _ => True)) k_ ∧ ¬ ((fun k_ => some k_ = ((.slice Av259 t258.length cv259) : Value).ownBlock)) k_) (.slice (some ⟨go24, 0, none⟩) x8_1.length co24) x8_1 from (by (with_reducible repeat (first | apply Kd.S_alloc | apply Kd.S_drewN | apply Kd.S_drew)); exact Kd.S_mono HO_8.out (fun k_ hk => ⟨trivial, fun e_ => hk e_⟩))))); (try (obtain ⟨oki26, ce26, hcl26, hM26, hcc26, hfr26, hoki26, hH26⟩ := Kd.S_elem HX26.out [] ((l0.length : Int) : Int) (Oa) (by have h_ : ((l0.length : Int) : Int) < ((x8_1.length : Int) : Int) := Oa; first | exact h_ | (have e_ := (Kd.S_reads' HO_8.out).1; omega) | simpa using h_))); (try (obtain ⟨ve26_0, rfl, ge26_0⟩ := hM26)); (try (have HP26 := Kd.S_seg hH26 (Oa) (by have h_ : ((l0.length : Int) : Int) < ((x8_1.length : Int) : Int) := Oa; first | exact h_ | (have e_ := (Kd.S_reads' HO_8.out).1; omega) | simpa using h_) (seg := [(.slice Av259 t258.length cv259)]) (j := 0) (show 1 ≤ 1 from by decide) (x' := t258) (Kd.M_row (Kd.R_mono (Kd.R_tight rfl (Kd.R_mono (ok' := fun k_ => ((fun _ => True)) k_ ∧ k_ ≠ go24) (Kd.R_apart' (HO260.out) (Kd.S_typed HO_8.out) (by decide)) (fun k_ hk => ⟨trivial, fun e_ => (hk.2) (by rw [e_]; rfl)⟩))) (fun _ h_ => Or.inr (h_)))) (fun _ hk => hk) (fun k_ hk_ => ((Kd.R_mono (ok' := fun k_ => ((fun _ => True)) k_ ∧ k_ ≠ go24) (Kd.R_apart' (HO260.out) (Kd.S_typed HO_8.out) (by decide)) (fun k_ hk => ⟨trivial, fun e_ => (hk.2) (by rw [e_]; rfl)⟩))).1 k_ hk_.symm))); (try (have hx26_0 := hcc26 0 _ rfl)); (try (try simp only [show ((Kd.slice 3 (Kd.int .i64))).sz = 1 from rfl, Nat.mul_one, Nat.add_zero] at hx26_0)); (try (have hf26_0 := hfr26 0)); (try (try simp only [show ((Kd.slice 3 (Kd.int .i64))).sz = 1 from rfl, Nat.mul_one, Nat.add_zero] at hf26_0); (try simp only [Int.toNat_natCast] at hx26_0 hf26_0)); (try ((try clear hcl26); (try clear hcc26); (try clear hfr26); (try clear hM26); (try clear hoki26); (try clear hH26))); (try (try simp only [show ((Kd.slice 3 (Kd.int .i64))).sz = 1 from rfl, Nat.mul_one, Nat.add_zero] at HP26)))); refine store_event (t := 24) (p := 45) (v := ?vo_w27) (w1 := (w25.setCell ⟨go24, ((l0.length : Int) : Int).toNat, none⟩ ((.slice Av259 t258.length cv259)))) ?hg ?ho ?hn ?hr ?_; (case ho => rfl); (case hg => rfl); (case hn => rfl); (case hr => first | (go_simp; done) | (go_simp; rfl)); intro w27 hw; have hg : w25.grownBy w27 (some go24) := (by rw [hw]; exact HP26.2); have hp_ : Kd.S (Kd.slice 3 (Kd.int .i64)) 24 w27 w.heap.size (fun _ => True) (.slice (some ⟨go24, 0, none⟩) x8_1.length co24) y261 := (by rw [hw, Ny261.out]; exact HP26.1); clear HP26; replace HO_8 := Aside0.mk (hp_); replace HB := Aside0.mk ((by rw [hw]; exact below_set (HB.out) GB24.out : Below w.heap.size w w27)); clear HO260; clear hg hw hp_) | ((with_reducible refine gate_dst (N := 46) rfl ?_); refine Kd.R_lit (Kd.int .i64) _ 3 ?hg (N := 46) ?hd (xs := ([] : List Int)) (inner := []) (ok := fun _ => True) (okp := fun _ => True) ?hr ?hp (fun _ hk => hk) trivial (Below.refl _ _) (Nat.le_refl _) (by simp) ?_; (case hd => rfl); (case hg => rfl); (case hr => first | (go_simp; done) | (go_simp; rfl)); (case hp => exact (Reps.none _ _)); intro v263 w28 ho29 hb hg_ hnew_; clear hg_ hnew_; (first | rw [← Ny262.out] at ho29 | (simp only [Int.reduceToNat] at ho29; rw [← Ny262.out] at ho29)); replace HO_8 := Aside0.mk (Kd.S_elder' (Sm HO_8.out) (Kd.R_base ho29) hb); have HO264 := Aside0.mk (Kd.R_lower ho29 (below_size Ub)); replace HB := Aside0.mk (below_step Ub hb); clear hb ho29))
     repeat (go_quiet (first | (go_at_call 95; (refine (impl_fewStamps.calls k1 _ _ ([] : List Int) a1 t258 _ ?side1 ?side2 A21.out).mono ?_); (case side1 => exact Kd.C_nil _ _); (case side2 => exact Nat.le_refl _); rintro e w25 ⟨v259, rfl, ho0, hb⟩; replace HO_8 := Aside0.mk (Kd.S_elder' (Sm HO_8.out) (Kd.R_base ho0) hb); have HO260 := Aside0.mk (Kd.R_lower ho0 (below_size Ub)); obtain ⟨Av259, cv259, ev259⟩ := Kd.R_slice HO260.out; subst ev259; replace HB := Aside0.mk (below_step Ub hb); clear hb ho0; have p24 : 0 ≤ ((l0.length : Int) : Int) := Oa; have q24 : ((l0.length : Int) : Int) < ((x8_1.length : Int) : Int) := Oa; obtain ⟨go24, co24, eo24, gb24, gl24, cl24, HG24⟩ := Kd.S_form HO_8.out (by omega); (first | cases eo24 | (injection eo24 with ea_ en_ ec_; (first | subst ea_ | (injection ea_ with ea_; subst ea_)); subst ec_; clear en_)); have GB24 := Aside0.mk gb24; have GG24 := Aside0.mk HG24; clear gb24 gl24 HG24; obtain ⟨_, ce24, hcl24, hM24, hcc24, hfr24, _, _⟩ := Kd.S_elem HO_8.out [] ((l0.length : Int) : Int) p24 q24; obtain ⟨ve24_0, rfl, ge24_0⟩ := hM24; have hx24_0 := hcc24 0 _ rfl; have hf24_0 := hfr24 0; (try simp only [show ((Kd.slice 3 (Kd.int .i64))).sz = 1 from rfl, Nat.mul_one, Nat.add_zero] at hx24_0); (try simp only [show ((Kd.slice 3 (Kd.int .i64))).sz = 1 from rfl, Nat.mul_one, Nat.add_zero] at hf24_0); (try simp only [Int.toNat_natCast] at hx24_0 hf24_0); (try clear hcl24); (try clear hcc24); (try clear hfr24); (try clear hM24); replace p24 := eq_true p24; replace q24 := eq_true q24; have n_ := Aside0.mk (Kd.S_mono (ok' := (fun k_ => some k_ ≠ ((.slice Av259 t258.length cv259) : Value).ownBlock)) HO_8.out (fun k_ hk => hk.2)); clear HO_8; have HO_8 := n_; clear n_; have HX26 := Aside0.mk (show Kd.S (Kd.slice 3 (Kd.int .i64)) 24 w25 w.heap.size (fun k_ => ((fun _ => True)) k_ ∧ ¬ ((fun k_ => some k_ = ((.slice Av259 t258.length cv259) : Value).ownBlock)) k_) (.slice (some ⟨go24, 0, none⟩) x8_1.length co24) x8_1 from (by (with_reducible repeat (first | apply Kd.S_alloc | apply Kd.S_drewN | apply Kd.S_drew)); exact Kd.S_mono HO_8.out (fun k_ hk => ⟨trivial, fun e_ => hk e_⟩))); obtain ⟨oki26, ce26, hcl26, hM26, hcc26, hfr26, hoki26, hH26⟩ := Kd.S_elem HX26.out [] ((l0.length : Int) : Int) (Oa) (by have h_ : ((l0.length : Int) : Int) < ((x8_1.length : Int) : Int) := Oa; first | exact h_ | (have e_ := (Kd.S_reads' HO_8.out).1; omega) | simpa using h_); obtain ⟨ve26_0, rfl, ge26_0⟩ := hM26; have HP26 := Kd.S_seg hH26 (Oa) (by have h_ : ((l0.length : Int) : Int) < ((x8_1.length : Int) : Int) := Oa; first | exact h_ | (have e_ := (Kd.S_reads' HO_8.out).1; omega) | simpa using h_) (seg := [(.slice Av259 t258.length cv259)]) (j := 0) (show 1 ≤ 1 from by decide) (x' := t258) (Kd.M_row (Kd.R_mono (Kd.R_tight rfl (Kd.R_mono (ok' := fun k_ => ((fun _ => True)) k_ ∧ k_ ≠ go24) (Kd.R_apart' (HO260.out) (Kd.S_typed HO_8.out) (by decide)) (fun k_ hk => ⟨trivial, fun e_ => (hk.2) (by rw [e_]; rfl)⟩))) (fun _ h_ => Or.inr (h_)))) (fun _ hk => hk) (fun k_ hk_ => ((Kd.R_mono (ok' := fun k_ => ((fun _ => True)) k_ ∧ k_ ≠ go24) (Kd.R_apart' (HO260.out) (Kd.S_typed HO_8.out) (by decide)) (fun k_ hk => ⟨trivial, fun e_ => (hk.2) (by rw [e_]; rfl)⟩))).1 k_ hk_.symm); have hx26_0 := hcc26 0 _ rfl; (try simp only [show ((Kd.slice 3 (Kd.int .i64))).sz = 1 from rfl, Nat.mul_one, Nat.add_zero] at hx26_0); have hf26_0 := hfr26 0; (try simp only [show ((Kd.slice 3 (Kd.int .i64))).sz = 1 from rfl, Nat.mul_one, Nat.add_zero] at hf26_0); (try simp only [Int.toNat_natCast] at hx26_0 hf26_0); (try clear hcl26); (try clear hcc26); (try clear hfr26); (try clear hM26); (try clear hoki26); (try clear hH26); (try simp only [show ((Kd.slice 3 (Kd.int .i64))).sz = 1 from rfl, Nat.mul_one, Nat.add_zero] at HP26)) | ((with_reducible refine gate_store (t := 24) (p := 45) rfl ?_); (try (rw [drewN_self w25]; generalize hq_ : World.drewN w25 _ = w25; replace HO_8 := Aside0.mk (Kd.S_at hq_ HO_8.out); replace HB := Aside0.mk (below_at hq_ HB.out); clear hq_; (try (have n_ := Aside0.mk (Kd.S_mono (ok' := (fun k_ => some k_ ≠ ((.slice Av259 t258.length cv259) : Value).ownBlock)) HO_8.out (fun k_ hk => hk.2)); clear HO_8; have HO_8 := n_; clear n_)); (try (have HX26 := Aside0.mk (show Kd.S (Kd.slice 3 (Kd.int .i64)) 24 w25 w.heap.size (fun k_ => ((fun _ => True)) k_ ∧ ¬ ((fun k_ => some k_ = ((.slice Av259 t258.length cv259) : Value).ownBlock)) k_) (.slice (some ⟨go24, 0, none⟩) x8_1.length co24) x8_1 from (by (with_reducible repeat (first | apply Kd.S_alloc | apply Kd.S_drewN | apply Kd.S_drew)); exact Kd.S_mono HO_8.out (fun k_ hk => ⟨trivial, fun e_ => hk e_⟩))))); (try (obtain ⟨oki26, ce26, hcl26, hM26, hcc26, hfr26, hoki26, hH26⟩ := Kd.S_elem HX26.out [] ((l0.length : Int) : Int) (Oa) (by have h_ : ((l0.length : Int) : Int) < ((x8_1.length : Int) : Int) := Oa; first | exact h_ | (have e_ := (Kd.S_reads' HO_8.out).1; omega) | simpa using h_))); (try (obtain ⟨ve26_0, rfl, ge26_0⟩ := hM26)); (try (have HP26 := Kd.S_seg hH26 (Oa) (by have h_ : ((l0.length : Int) : Int) < ((x8_1.length : Int) : Int) := Oa; first | exact h_ | (have e_ := (Kd.S_reads' HO_8.out).1; omega) | simpa using h_) (seg := [(.slice Av259 t258.length cv259)]) (j := 0) (show 1 ≤ 1 from by decide) (x' := t258) (Kd.M_row (Kd.R_mono (Kd.R_tight rfl (Kd.R_mono (ok' := fun k_ => ((fun _ => True)) k_ ∧ k_ ≠ go24) (Kd.R_apart' (HO260.out) (Kd.S_typed HO_8.out) (by decide)) (fun k_ hk => ⟨trivial, fun e_ => (hk.2) (by rw [e_]; rfl)⟩))) (fun _ h_ => Or.inr (h_)))) (fun _ hk => hk) (fun k_ hk_ => ((Kd.R_mono (ok' := fun k_ => ((fun _ => True)) k_ ∧ k_ ≠ go24) (Kd.R_apart' (HO260.out) (Kd.S_typed HO_8.out) (by decide)) (fun k_ hk => ⟨trivial, fun e_ => (hk.2) (by rw [e_]; rfl)⟩))).1 k_ hk_.symm))); (try (have hx26_0 := hcc26 0 _ rfl)); (try (try simp only [show ((Kd.slice 3 (Kd.int .i64))).sz = 1 from rfl, Nat.mul_one, Nat.add_zero] at hx26_0)); (try (have hf26_0 := hfr26 0)); (try (try simp only [show ((Kd.slice 3 (Kd.int .i64))).sz = 1 from rfl, Nat.mul_one, Nat.add_zero] at hf26_0); (try simp only [Int.toNat_natCast] at hx26_0 hf26_0)); (try ((try clear hcl26); (try clear hcc26); (try clear hfr26); (try clear hM26); (try clear hoki26); (try clear hH26))); (try (try simp only [show ((Kd.slice 3 (Kd.int .i64))).sz = 1 from rfl, Nat.mul_one, Nat.add_zero] at HP26)))); refine store_event (t := 24) (p := 45) (v := ?vo_w27) (w1 := (w25.setCell ⟨go24, ((l0.length : Int) : Int).toNat, none⟩ ((.slice Av259 t258.length cv259)))) ?hg ?ho ?hn ?hr ?_; (case ho => rfl); (case hg => rfl); (case hn => rfl); (case hr => first | (go_simp; done) | (go_simp; rfl)); intro w27 hw; have hg : w25.grownBy w27 (some go24) := (by rw [hw]; exact HP26.2); have hp_ : Kd.S (Kd.slice 3 (Kd.int .i64)) 24 w27 w.heap.size (fun _ => True) (.slice (some ⟨go24, 0, none⟩) x8_1.length co24) y261 := (by rw [hw, Ny261.out]; exact HP26.1); clear HP26; replace HO_8 := Aside0.mk (hp_); replace HB := Aside0.mk ((by rw [hw]; exact below_set (HB.out) GB24.out : Below w.heap.size w w27)); clear HO260; clear hg hw hp_) | ((with_reducible refine gate_dst (N := 46) rfl ?_); refine Kd.R_lit (Kd.int .i64) _ 3 ?hg (N := 46) ?hd (xs := ([] : List Int)) (inner := []) (ok := fun _ => True) (okp := fun _ => True) ?hr ?hp (fun _ hk => hk) trivial (Below.refl _ _) (Nat.le_refl _) (by simp) ?_; (case hd => rfl); (case hg => rfl); (case hr => first | (go_simp; done) | (go_simp; rfl)); (case hp => exact (Reps.none _ _)); intro v263 w28 ho29 hb hg_ hnew_; clear hg_ hnew_; (first | rw [← Ny262.out] at ho29 | (simp only [Int.reduceToNat] at ho29; rw [← Ny262.out] at ho29)); replace HO_8 := Aside0.mk (Kd.S_elder' (Sm HO_8.out) (Kd.R_base ho29) hb); have HO264 := Aside0.mk (Kd.R_lower ho29 (below_size Ub)); replace HB := Aside0.mk (below_step Ub hb); clear hb ho29)); try go_wp2_with (first | (go_at_call 95; (refine (impl_fewStamps.calls k1 _ _ ([] : List Int) a1 t258 _ ?side1 ?side2 A21.out).mono ?_); (case side1 => exact Kd.C_nil _ _); (case side2 => exact Nat.le_refl _); rintro e w25 ⟨v259, rfl, ho0, hb⟩; replace HO_8 := Aside0.mk (Kd.S_elder' (Sm HO_8.out) (Kd.R_base ho0) hb); have HO260 := Aside0.mk (Kd.R_lower ho0 (below_size Ub)); obtain ⟨Av259, cv259, ev259⟩ := Kd.R_slice HO260.out; subst ev259; replace HB := Aside0.mk (below_step Ub hb); clear hb ho0; have p24 : 0 ≤ ((l0.length : Int) : Int) := Oa; have q24 : ((l0.length : Int) : Int) < ((x8_1.length : Int) : Int) := Oa; obtain ⟨go24, co24, eo24, gb24, gl24, cl24, HG24⟩ := Kd.S_form HO_8.out (by omega); (first | cases eo24 | (injection eo24 with ea_ en_ ec_; (first | subst ea_ | (injection ea_ with ea_; subst ea_)); subst ec_; clear en_)); have GB24 := Aside0.mk gb24; have GG24 := Aside0.mk HG24; clear gb24 gl24 HG24; obtain ⟨_, ce24, hcl24, hM24, hcc24, hfr24, _, _⟩ := Kd.S_elem HO_8.out [] ((l0.length : Int) : Int) p24 q24; obtain ⟨ve24_0, rfl, ge24_0⟩ := hM24; have hx24_0 := hcc24 0 _ rfl; have hf24_0 := hfr24 0; (try simp only [show ((Kd.slice 3 (Kd.int .i64))).sz = 1 from rfl, Nat.mul_one, Nat.add_zero] at hx24_0); (try simp only [show ((Kd.slice 3 (Kd.int .i64))).sz = 1 from rfl, Nat.mul_one, Nat.add_zero] at hf24_0); (try simp only [Int.toNat_natCast] at hx24_0 hf24_0); (try clear hcl24); (try clear hcc24); (try clear hfr24); (try clear hM24); replace p24 := eq_true p24; replace q24 := eq_true q24; have n_ := Aside0.mk (Kd.S_mono (ok' := (fun k_ => some k_ ≠ ((.slice Av259 t258.length cv259) : Value).ownBlock)) HO_8.out (fun k_ hk => hk.2)); clear HO_8; have HO_8 := n_; clear n_; have HX26 := Aside0.mk (show Kd.S (Kd.slice 3 (Kd.int .i64)) 24 w25 w.heap.size (fun k_ => ((fun _ => True)) k_ ∧ ¬ ((fun k_ => some k_ = ((.slice Av259 t258.length cv259) : Value).ownBlock)) k_) (.slice (some ⟨go24, 0, none⟩) x8_1.length co24) x8_1 from (by (with_reducible repeat (first | apply Kd.S_alloc | apply Kd.S_drewN | apply Kd.S_drew)); exact Kd.S_mono HO_8.out (fun k_ hk => ⟨trivial, fun e_ => hk e_⟩))); obtain ⟨oki26, ce26, hcl26, hM26, hcc26, hfr26, hoki26, hH26⟩ := Kd.S_elem HX26.out [] ((l0.length : Int) : Int) (Oa) (by have h_ : ((l0.length : Int) : Int) < ((x8_1.length : Int) : Int) := Oa; first | exact h_ | (have e_ := (Kd.S_reads' HO_8.out).1; omega) | simpa using h_); obtain ⟨ve26_0, rfl, ge26_0⟩ := hM26; have HP26 := Kd.S_seg hH26 (Oa) (by have h_ : ((l0.length : Int) : Int) < ((x8_1.length : Int) : Int) := Oa; first | exact h_ | (have e_ := (Kd.S_reads' HO_8.out).1; omega) | simpa using h_) (seg := [(.slice Av259 t258.length cv259)]) (j := 0) (show 1 ≤ 1 from by decide) (x' := t258) (Kd.M_row (Kd.R_mono (Kd.R_tight rfl (Kd.R_mono (ok' := fun k_ => ((fun _ => True)) k_ ∧ k_ ≠ go24) (Kd.R_apart' (HO260.out) (Kd.S_typed HO_8.out) (by decide)) (fun k_ hk => ⟨trivial, fun e_ => (hk.2) (by rw [e_]; rfl)⟩))) (fun _ h_ => Or.inr (h_)))) (fun _ hk => hk) (fun k_ hk_ => ((Kd.R_mono (ok' := fun k_ => ((fun _ => True)) k_ ∧ k_ ≠ go24) (Kd.R_apart' (HO260.out) (Kd.S_typed HO_8.out) (by decide)) (fun k_ hk => ⟨trivial, fun e_ => (hk.2) (by rw [e_]; rfl)⟩))).1 k_ hk_.symm); have hx26_0 := hcc26 0 _ rfl; (try simp only [show ((Kd.slice 3 (Kd.int .i64))).sz = 1 from rfl, Nat.mul_one, Nat.add_zero] at hx26_0); have hf26_0 := hfr26 0; (try simp only [show ((Kd.slice 3 (Kd.int .i64))).sz = 1 from rfl, Nat.mul_one, Nat.add_zero] at hf26_0); (try simp only [Int.toNat_natCast] at hx26_0 hf26_0); (try clear hcl26); (try clear hcc26); (try clear hfr26); (try clear hM26); (try clear hoki26); (try clear hH26); (try simp only [show ((Kd.slice 3 (Kd.int .i64))).sz = 1 from rfl, Nat.mul_one, Nat.add_zero] at HP26)) | ((with_reducible refine gate_store (t := 24) (p := 45) rfl ?_); (try (rw [drewN_self w25]; generalize hq_ : World.drewN w25 _ = w25; replace HO_8 := Aside0.mk (Kd.S_at hq_ HO_8.out); replace HB := Aside0.mk (below_at hq_ HB.out); clear hq_; (try (have n_ := Aside0.mk (Kd.S_mono (ok' := (fun k_ => some k_ ≠ ((.slice Av259 t258.length cv259) : Value).ownBlock)) HO_8.out (fun k_ hk => hk.2)); clear HO_8; have HO_8 := n_; clear n_)); (try (have HX26 := Aside0.mk (show Kd.S (Kd.slice 3 (Kd.int .i64)) 24 w25 w.heap.size (fun k_ => ((fun _ => True)) k_ ∧ ¬ ((fun k_ => some k_ = ((.slice Av259 t258.length cv259) : Value).ownBlock)) k_) (.slice (some ⟨go24, 0, none⟩) x8_1.length co24) x8_1 from (by (with_reducible repeat (first | apply Kd.S_alloc | apply Kd.S_drewN | apply Kd.S_drew)); exact Kd.S_mono HO_8.out (fun k_ hk => ⟨trivial, fun e_ => hk e_⟩))))); (try (obtain ⟨oki26, ce26, hcl26, hM26, hcc26, hfr26, hoki26, hH26⟩ := Kd.S_elem HX26.out [] ((l0.length : Int) : Int) (Oa) (by have h_ : ((l0.length : Int) : Int) < ((x8_1.length : Int) : Int) := Oa; first | exact h_ | (have e_ := (Kd.S_reads' HO_8.out).1; omega) | simpa using h_))); (try (obtain ⟨ve26_0, rfl, ge26_0⟩ := hM26)); (try (have HP26 := Kd.S_seg hH26 (Oa) (by have h_ : ((l0.length : Int) : Int) < ((x8_1.length : Int) : Int) := Oa; first | exact h_ | (have e_ := (Kd.S_reads' HO_8.out).1; omega) | simpa using h_) (seg := [(.slice Av259 t258.length cv259)]) (j := 0) (show 1 ≤ 1 from by decide) (x' := t258) (Kd.M_row (Kd.R_mono (Kd.R_tight rfl (Kd.R_mono (ok' := fun k_ => ((fun _ => True)) k_ ∧ k_ ≠ go24) (Kd.R_apart' (HO260.out) (Kd.S_typed HO_8.out) (by decide)) (fun k_ hk => ⟨trivial, fun e_ => (hk.2) (by rw [e_]; rfl)⟩))) (fun _ h_ => Or.inr (h_)))) (fun _ hk => hk) (fun k_ hk_ => ((Kd.R_mono (ok' := fun k_ => ((fun _ => True)) k_ ∧ k_ ≠ go24) (Kd.R_apart' (HO260.out) (Kd.S_typed HO_8.out) (by decide)) (fun k_ hk => ⟨trivial, fun e_ => (hk.2) (by rw [e_]; rfl)⟩))).1 k_ hk_.symm))); (try (have hx26_0 := hcc26 0 _ rfl)); (try (try simp only [show ((Kd.slice 3 (Kd.int .i64))).sz = 1 from rfl, Nat.mul_one, Nat.add_zero] at hx26_0)); (try (have hf26_0 := hfr26 0)); (try (try simp only [show ((Kd.slice 3 (Kd.int .i64))).sz = 1 from rfl, Nat.mul_one, Nat.add_zero] at hf26_0); (try simp only [Int.toNat_natCast] at hx26_0 hf26_0)); (try ((try clear hcl26); (try clear hcc26); (try clear hfr26); (try clear hM26); (try clear hoki26); (try clear hH26))); (try (try simp only [show ((Kd.slice 3 (Kd.int .i64))).sz = 1 from rfl, Nat.mul_one, Nat.add_zero] at HP26)))); refine store_event (t := 24) (p := 45) (v := ?vo_w27) (w1 := (w25.setCell ⟨go24, ((l0.length : Int) : Int).toNat, none⟩ ((.slice Av259 t258.length cv259)))) ?hg ?ho ?hn ?hr ?_; (case ho => rfl); (case hg => rfl); (case hn => rfl); (case hr => first | (go_simp; done) | (go_simp; rfl)); intro w27 hw; have hg : w25.grownBy w27 (some go24) := (by rw [hw]; exact HP26.2); have hp_ : Kd.S (Kd.slice 3 (Kd.int .i64)) 24 w27 w.heap.size (fun _ => True) (.slice (some ⟨go24, 0, none⟩) x8_1.length co24) y261 := (by rw [hw, Ny261.out]; exact HP26.1); clear HP26; replace HO_8 := Aside0.mk (hp_); replace HB := Aside0.mk ((by rw [hw]; exact below_set (HB.out) GB24.out : Below w.heap.size w w27)); clear HO260; clear hg hw hp_) | ((with_reducible refine gate_dst (N := 46) rfl ?_); refine Kd.R_lit (Kd.int .i64) _ 3 ?hg (N := 46) ?hd (xs := ([] : List Int)) (inner := []) (ok := fun _ => True) (okp := fun _ => True) ?hr ?hp (fun _ hk => hk) trivial (Below.refl _ _) (Nat.le_refl _) (by simp) ?_; (case hd => rfl); (case hg => rfl); (case hr => first | (go_simp; done) | (go_simp; rfl)); (case hp => exact (Reps.none _ _)); intro v263 w28 ho29 hb hg_ hnew_; clear hg_ hnew_; (first | rw [← Ny262.out] at ho29 | (simp only [Int.reduceToNat] at ho29; rw [← Ny262.out] at ho29)); replace HO_8 := Aside0.mk (Kd.S_elder' (Sm HO_8.out) (Kd.R_base ho29) hb); have HO264 := Aside0.mk (Kd.R_lower ho29 (below_size Ub)); replace HB := Aside0.mk (below_step Ub hb); clear hb ho29)))
     go_loopg [1, 10, 49] k1 (fun kq v1 v10 v49 w' => ∃ (x1_2 : Int) (x10_2 : List Int) (x49_2 : Int), v1 = .int .i64 x1_2 ∧ v49 = .int .i64 x49_2 ∧ Aside0 (impl_BestChange.l1 kq x1_2 y261 x10_2 l0 (l0.length : Int) x49_2 = some (r1, r2)) ∧ Aside0 (kq ≤ k1) ∧ Aside0 (Kd.S (Kd.slice 3 (Kd.int .i64)) 24 w' w.heap.size (fun k_ => some k_ ≠ (v10 : Value).ownBlock) (.slice (some ⟨go24, 0, none⟩) x8_1.length co24) y261) ∧ Aside0 (Kd.R (Kd.int .i64) 3 w' w.heap.size (fun _ => True) v10 x10_2) ∧ Aside0 (Below w.heap.size w w'))
     case atStart => exact ⟨(a1), (y262), (0), Rs, Rs, H', ⟨Nat.le_refl _⟩, ⟨by (with_reducible repeat (first | apply Kd.S_alloc | apply Kd.S_drewN | apply Kd.S_drew)); exact Kd.S_mono HO_8.out (fun _ hk => hk.2)⟩, ⟨Rm HO264.out⟩, ⟨Ub⟩⟩
     case round =>
      clear H'
      try clear c6
      try clear c6b0
      try clear c6b1
      try clear c7
      try clear c7b0
      try clear c7b1
      try clear c11
      try clear c11b0
      try clear c12
      try clear c12b0
      try clear c12b1
      try clear c13
      try clear c13b0
      try clear c13b1
      try clear c15
      try clear c15b0
      try clear p16
      try clear q16
      try clear c22
      try clear c22b0
      try clear c22b1
      try clear c23
      try clear c23b0
      try clear c23b1
      try clear p24
      try clear q24
      try clear hx16_0
      try clear hx19_0
      try clear hx24_0
      try clear hx26_0
      try clear p16
      try clear p24
      try clear q16
      try clear q24
      obtain ⟨x1_2, x10_2, x49_2, rfl, rfl, HA, HK2, HO_8, HO_10, HB⟩ := hrel
      have hl8_2 := (Kd.S_reads' HO_8.out).1
      rw [hl8_2] at HO_8
      (try simp only [hl8_2])
      (try simp only [hl8_2] at HO_10)
      cases gk with
      | zero => exact absurd HA.out (by simp [impl_BestChange.l1])
      | succ k2 =>
       have H := HA.out
       clear HA
       simp only [impl_BestChange.l1] at H
       replace H := Ic H; rcases H with ⟨c30, H⟩ | ⟨c30, H⟩
       · have c30b0 := decide_eq_true c30
         clear c30
         replace H := Ip H; obtain ⟨c31, H⟩ := H
         have c31b0 := decide_eq_true c31
         clear c31
         replace H := Ip H; obtain ⟨c32, H⟩ := H
         have c32b0 := decide_eq_true c32
         clear c32
         have H' := Aside0.mk H
         clear H
         obtain ⟨p265, q265, ad265, e265, hx265_0⟩ := Ai HR0.out x49_2
         cases e265
         replace hx265_0 := (HB.out.cell (World.block_lt_of_cell? w _ hx265_0)).trans hx265_0
         go_wp2
         repeat (go_quiet (fail); try go_wp2)
         go_loopg [13] k2 (fun kq v13 w' => ∃ (x13_3 : Int), v13 = .int .i64 x13_3 ∧ Aside0 (impl_BestChange.l2 kq x1_2 y261 x10_2 x49_2 (rd l0 x49_2) x13_3 l0 (l0.length : Int) x49_2 = some (r1, r2)) ∧ Aside0 (kq ≤ k2) ∧ Aside0 (Kd.S (Kd.slice 3 (Kd.int .i64)) 24 w' w.heap.size (fun k_ => some k_ ≠ (u10 : Value).ownBlock) (.slice (some ⟨go24, 0, none⟩) y261.length co24) y261) ∧ Aside0 (Kd.R (Kd.int .i64) 3 w' w.heap.size (fun _ => True) u10 x10_2) ∧ Aside0 (Below w.heap.size w w'))
         case atStart => exact ⟨(0), Rs, H', ⟨Nat.le_refl _⟩, ⟨by (try simp only [hl8_2]); (with_reducible repeat (first | apply Kd.S_alloc | apply Kd.S_drewN | apply Kd.S_drew)); exact HO_8.out⟩, ⟨by (try simp only [hl8_2]); (with_reducible repeat (first | apply Kd.R_alloc | apply Kd.R_drewN | apply Kd.R_drew)); exact HO_10.out⟩, ⟨Ub⟩⟩
         case round =>
          clear H'
          try clear c6
          try clear c6b0
          try clear c6b1
          try clear c7
          try clear c7b0
          try clear c7b1
          try clear c11
          try clear c11b0
          try clear c12
          try clear c12b0
          try clear c12b1
          try clear c13
          try clear c13b0
          try clear c13b1
          try clear c15
          try clear c15b0
          try clear p16
          try clear q16
          try clear c22
          try clear c22b0
          try clear c22b1
          try clear c23
          try clear c23b0
          try clear c23b1
          try clear p24
          try clear q24
          try clear c30
          try clear c30b0
          try clear c31
          try clear c31b0
          try clear c32
          try clear c32b0
          try clear hx16_0
          try clear hx19_0
          try clear hx24_0
          try clear hx265_0
          try clear hx26_0
          try clear p16
          try clear p24
          try clear p265
          try clear q16
          try clear q24
          try clear q265
          obtain ⟨x13_3, rfl, HA, HK3, HO_8, HO_10, HB⟩ := hrel
          cases gk with
          | zero => exact absurd HA.out (by simp [impl_BestChange.l2])
          | succ k3 =>
           have H := HA.out
           clear HA
           simp only [impl_BestChange.l2] at H
           obtain ⟨ji33, hji33⟩ : ∃ j_ : Int, (wrap64 (x49_2 + 1)) = j_ := ⟨_, rfl⟩
           replace H : (if 0 ≤ (ji33) then (if (ji33) < (y261.length : Int) then (if 0 ≤ (wrap64 (x1_2 - (wrap64 (x13_3 * (rd l0 x49_2))))) then (if (wrap64 (x1_2 - (wrap64 (x13_3 * (rd l0 x49_2))))) < ((rd_L2 y261 (ji33)).length : Int) then (if 0 ≤ x49_2 then (if x49_2 < (y261.length : Int) then (if 0 ≤ x1_2 then (if x1_2 < ((rd_L2 y261 x49_2).length : Int) then (if (wrap64 (x13_3 + (rd (rd_L2 y261 (ji33)) (wrap64 (x1_2 - (wrap64 (x13_3 * (rd l0 x49_2)))))))) = (rd (rd_L2 y261 x49_2) x1_2) then (if (rd (rd_L2 y261 (ji33)) (wrap64 (x1_2 - (wrap64 (x13_3 * (rd l0 x49_2)))))) > (wrap64 (x1_2 - (wrap64 (x13_3 * (rd l0 x49_2))))) then (impl_BestChange.l2 k3 x1_2 y261 x10_2 x49_2 (rd l0 x49_2) (wrap64 (x13_3 + 1)) l0 (l0.length : Int) x49_2) else (if x10_2.length < 17592186044416 then (impl_BestChange.l1 k3 (wrap64 (x1_2 - (wrap64 (x13_3 * (rd l0 x49_2))))) y261 (x10_2 ++ [x13_3]) l0 (l0.length : Int) ji33) else (none))) else (impl_BestChange.l2 k3 x1_2 y261 x10_2 x49_2 (rd l0 x49_2) (wrap64 (x13_3 + 1)) l0 (l0.length : Int) x49_2)) else (none)) else (none)) else (none)) else (none)) else (none)) else (none)) else (none)) else (none)) = some (r1, r2) := by first | (rw [hji33] at H; exact H) | (simp only [hji33] at H ⊢; exact H)
           have hji33w : (IntKind.i64.wrap (x49_2 + 1)) = ji33 := (i64_w _).trans hji33
           replace H := Ip H; obtain ⟨c34, H⟩ := H
           have c34b0 := decide_eq_true c34
           clear c34
           replace H := Ip H; obtain ⟨c35, H⟩ := H
           have c35b0 := decide_eq_true c35
           clear c35
           obtain ⟨ji36, hji36⟩ : ∃ j_ : Int, (wrap64 (x1_2 - (wrap64 (x13_3 * (rd l0 x49_2))))) = j_ := ⟨_, rfl⟩
           replace H : (if 0 ≤ (ji36) then (if (ji36) < ((rd_L2 y261 (ji33)).length : Int) then (if 0 ≤ x49_2 then (if x49_2 < (y261.length : Int) then (if 0 ≤ x1_2 then (if x1_2 < ((rd_L2 y261 x49_2).length : Int) then (if (wrap64 (x13_3 + (rd (rd_L2 y261 (ji33)) (ji36)))) = (rd (rd_L2 y261 x49_2) x1_2) then (if (rd (rd_L2 y261 (ji33)) (ji36)) > (ji36) then (impl_BestChange.l2 k3 x1_2 y261 x10_2 x49_2 (rd l0 x49_2) (wrap64 (x13_3 + 1)) l0 (l0.length : Int) x49_2) else (if x10_2.length < 17592186044416 then (impl_BestChange.l1 k3 ji36 y261 (x10_2 ++ [x13_3]) l0 (l0.length : Int) ji33) else (none))) else (impl_BestChange.l2 k3 x1_2 y261 x10_2 x49_2 (rd l0 x49_2) (wrap64 (x13_3 + 1)) l0 (l0.length : Int) x49_2)) else (none)) else (none)) else (none)) else (none)) else (none)) else (none)) = some (r1, r2) := by first | (rw [hji36] at H; exact H) | (simp only [hji36] at H ⊢; exact H)
           have hji36w : (IntKind.i64.wrap (x1_2 - (wrap64 (x13_3 * (rd l0 x49_2))))) = ji36 := (i64_w _).trans hji36
           replace H := Ip H; obtain ⟨c37, H⟩ := H
           have c37b0 := decide_eq_true c37
           clear c37
           replace H := Ip H; obtain ⟨c38, H⟩ := H
           have c38b0 := decide_eq_true c38
           clear c38
           replace H := Ip H; obtain ⟨c39, H⟩ := H
           have c39b0 := decide_eq_true c39
           clear c39
           replace H := Ip H; obtain ⟨c40, H⟩ := H
           have c40b0 := decide_eq_true c40
           clear c40
           replace H := Ip H; obtain ⟨c41, H⟩ := H
           have c41b0 := decide_eq_true c41
           clear c41
           replace H := Ip H; obtain ⟨c42, H⟩ := H
           have c42b0 := decide_eq_true c42
           clear c42
           replace H := Ic H; rcases H with ⟨c43, H⟩ | ⟨c43, H⟩
           · have c43b0 : ((wrap64 (x13_3 + (rd (rd_L2 y261 (ji33)) (ji36)))) == (rd (rd_L2 y261 x49_2) x1_2)) = true := beq_iff_eq.mpr c43
             have c43b1 := bne_eq_false_iff_eq.mpr c43
             clear c43
             replace H := Ic H; rcases H with ⟨c44, H⟩ | ⟨c44, H⟩
             · have c44b0 : decide ((ji36) < (rd (rd_L2 y261 (ji33)) (ji36))) = true := decide_eq_true c44
               clear c44
               have H' := Aside0.mk H
               clear H
               have p266 : 0 ≤ ((ji33) : Int) := Oa
               have q266 : (ji33) < (y261.length : Int) := Oa
               obtain ⟨ad266, A266_0, c266_0, e266, hx266_0, hl266_0, hi266_0⟩ := at_L2 (Kd.S_reads' HO_8.out).2.2 (ji33) p266 q266
               obtain rfl : (⟨go24, 0, none⟩ : Addr) = ad266 := (by injection e266)
               obtain ⟨ce266, hce266, hMe266, hcc266⟩ := Kd.S_get HO_8.out [] (ji33) p266 (by first | exact q266 | exact Oa | (have e_ := (Kd.S_reads' HO_8.out).1; omega))
               obtain ⟨ve266_0, rfl, ge266_0⟩ := hMe266
               have hv266_0 := hcc266 0 _ rfl
               rw [Nat.add_zero, show ((Kd.slice 3 (Kd.int .i64))).sz = 1 from rfl, Nat.mul_one] at hv266_0
               replace hv266_0 := Option.some.inj (hv266_0.symm.trans hx266_0)
               rw [hv266_0] at ge266_0
               have HL266_0 := Aside0.mk (show Kd.R (Kd.int .i64) 3 _ _ _ _ (rd_L2 y261 (ji33)) from ge266_0)
               clear hv266_0 ge266_0; clear hcc266 hce266
               (first | simp only [add_plain] at hx266_0 | simp only [add_at] at hx266_0 | simp only [Addr.add, Nat.zero_add] at hx266_0 | skip)
               have HR266_0 := Aside0.mk hi266_0
               have HC266_0 := Aside0.mk hl266_0
               clear hi266_0 hl266_0
               replace p266 := eq_true p266
               replace q266 := eq_true q266
               obtain ⟨p267, q267, ad267, e267, hx267_0⟩ := Ai (by repeat (first | (with_reducible exact HR266_0.out) | (with_reducible refine Kd.C_alloc ?_ _) | (with_reducible refine Kd.C_drewN ?_ _) | (with_reducible refine Kd.C_drew ?_) | exact HR266_0.out)) (ji36)
               cases e267
               have p268 : 0 ≤ (x49_2 : Int) := Oa
               have q268 : x49_2 < (y261.length : Int) := Oa
               obtain ⟨ad268, A268_0, c268_0, e268, hx268_0, hl268_0, hi268_0⟩ := at_L2 (Kd.S_reads' HO_8.out).2.2 x49_2 p268 q268
               obtain rfl : (⟨go24, 0, none⟩ : Addr) = ad268 := (by injection e268)
               obtain ⟨ce268, hce268, hMe268, hcc268⟩ := Kd.S_get HO_8.out [] x49_2 p268 (by first | exact q268 | exact Oa | (have e_ := (Kd.S_reads' HO_8.out).1; omega))
               obtain ⟨ve268_0, rfl, ge268_0⟩ := hMe268
               have hv268_0 := hcc268 0 _ rfl
               rw [Nat.add_zero, show ((Kd.slice 3 (Kd.int .i64))).sz = 1 from rfl, Nat.mul_one] at hv268_0
               replace hv268_0 := Option.some.inj (hv268_0.symm.trans hx268_0)
               rw [hv268_0] at ge268_0
               have HL268_0 := Aside0.mk (show Kd.R (Kd.int .i64) 3 _ _ _ _ (rd_L2 y261 x49_2) from ge268_0)
               clear hv268_0 ge268_0; clear hcc268 hce268
               (first | simp only [add_plain] at hx268_0 | simp only [add_at] at hx268_0 | simp only [Addr.add, Nat.zero_add] at hx268_0 | skip)
               have HR268_0 := Aside0.mk hi268_0
               have HC268_0 := Aside0.mk hl268_0
               clear hi268_0 hl268_0
               replace p268 := eq_true p268
               replace q268 := eq_true q268
               obtain ⟨p269, q269, ad269, e269, hx269_0⟩ := Ai (by repeat (first | (with_reducible exact HR268_0.out) | (with_reducible refine Kd.C_alloc ?_ _) | (with_reducible refine Kd.C_drewN ?_ _) | (with_reducible refine Kd.C_drew ?_) | exact HR268_0.out)) x1_2
               cases e269
               have p270 : 0 ≤ ((ji33) : Int) := Oa
               have q270 : (ji33) < (y261.length : Int) := Oa
               obtain ⟨ad270, A270_0, c270_0, e270, hx270_0, hl270_0, hi270_0⟩ := at_L2 (Kd.S_reads' HO_8.out).2.2 (ji33) p270 q270
               obtain rfl : (⟨go24, 0, none⟩ : Addr) = ad270 := (by injection e270)
               obtain ⟨ce270, hce270, hMe270, hcc270⟩ := Kd.S_get HO_8.out [] (ji33) p270 (by first | exact q270 | exact Oa | (have e_ := (Kd.S_reads' HO_8.out).1; omega))
               obtain ⟨ve270_0, rfl, ge270_0⟩ := hMe270
               have hv270_0 := hcc270 0 _ rfl
               rw [Nat.add_zero, show ((Kd.slice 3 (Kd.int .i64))).sz = 1 from rfl, Nat.mul_one] at hv270_0
               replace hv270_0 := Option.some.inj (hv270_0.symm.trans hx270_0)
               rw [hv270_0] at ge270_0
               have HL270_0 := Aside0.mk (show Kd.R (Kd.int .i64) 3 _ _ _ _ (rd_L2 y261 (ji33)) from ge270_0)
               clear hv270_0 ge270_0; clear hcc270 hce270
               (first | simp only [add_plain] at hx270_0 | simp only [add_at] at hx270_0 | simp only [Addr.add, Nat.zero_add] at hx270_0 | skip)
               have HR270_0 := Aside0.mk hi270_0
               have HC270_0 := Aside0.mk hl270_0
               clear hi270_0 hl270_0
               replace p270 := eq_true p270
               replace q270 := eq_true q270
               have ea_ := Option.some.inj (hx266_0.symm.trans hx270_0)
               injection ea_ with ea_ en_ ec_
               subst ea_
               subst ec_
               clear en_
               obtain ⟨p271, q271, ad271, e271, hx271_0⟩ := Ai (by repeat (first | (with_reducible exact HR270_0.out) | (with_reducible refine Kd.C_alloc ?_ _) | (with_reducible refine Kd.C_drewN ?_ _) | (with_reducible refine Kd.C_drew ?_) | exact HR270_0.out)) (ji36)
               cases e271
               go_wp2
               repeat (go_quiet (fail); try go_wp2)
               go_roundg k3
               case measure => have := HK1.out; have := HK2.out; have := HK3.out; omega
               case rel => exact ⟨(wrap64 (x13_3 + 1)), Rs, H', ⟨by have := HK1.out; have := HK2.out; have := HK3.out; omega⟩, ⟨by (try simp only [hl8_2]); (with_reducible repeat (first | apply Kd.S_alloc | apply Kd.S_drewN | apply Kd.S_drew)); exact HO_8.out⟩, ⟨by (try simp only [hl8_2]); (with_reducible repeat (first | apply Kd.R_alloc | apply Kd.R_drewN | apply Kd.R_drew)); exact HO_10.out⟩, ⟨Ub⟩⟩
             have c44b0 : decide ((ji36) < (rd (rd_L2 y261 (ji33)) (ji36))) = false := decide_eq_false c44
             clear c44
             replace H := Ip H; obtain ⟨c45, H⟩ := H
             have LMc45 := Aside0.mk c45
             clear c45
             obtain ⟨y272, hy272⟩ : ∃ y_ : List Int, y_ = (x10_2 ++ [x13_3]) := ⟨_, rfl⟩
             replace H : (impl_BestChange.l1 k3 ji36 y261 y272 l0 (l0.length : Int) ji33) = some (r1, r2) := by first | (rw [hy272]; with_reducible exact H) | (have H2_ := (Option.bind_some _ _).symm.trans H; rw [hy272]; with_reducible exact H2_) | (have H2_ := (Option.bind_some _ _).symm.trans H; with_reducible exact H2_) | with_reducible exact H | (rw [hy272]; exact H) | exact H
             have Ny272 := Aside0.mk hy272
             clear hy272
             have H' := Aside0.mk H
             clear H
             have p266 : 0 ≤ ((ji33) : Int) := Oa
             have q266 : (ji33) < (y261.length : Int) := Oa
             obtain ⟨ad266, A266_0, c266_0, e266, hx266_0, hl266_0, hi266_0⟩ := at_L2 (Kd.S_reads' HO_8.out).2.2 (ji33) p266 q266
             obtain rfl : (⟨go24, 0, none⟩ : Addr) = ad266 := (by injection e266)
             obtain ⟨ce266, hce266, hMe266, hcc266⟩ := Kd.S_get HO_8.out [] (ji33) p266 (by first | exact q266 | exact Oa | (have e_ := (Kd.S_reads' HO_8.out).1; omega))
             obtain ⟨ve266_0, rfl, ge266_0⟩ := hMe266
             have hv266_0 := hcc266 0 _ rfl
             rw [Nat.add_zero, show ((Kd.slice 3 (Kd.int .i64))).sz = 1 from rfl, Nat.mul_one] at hv266_0
             replace hv266_0 := Option.some.inj (hv266_0.symm.trans hx266_0)
             rw [hv266_0] at ge266_0
             have HL266_0 := Aside0.mk (show Kd.R (Kd.int .i64) 3 _ _ _ _ (rd_L2 y261 (ji33)) from ge266_0)
             clear hv266_0 ge266_0; clear hcc266 hce266
             (first | simp only [add_plain] at hx266_0 | simp only [add_at] at hx266_0 | simp only [Addr.add, Nat.zero_add] at hx266_0 | skip)
             have HR266_0 := Aside0.mk hi266_0
             have HC266_0 := Aside0.mk hl266_0
             clear hi266_0 hl266_0
             replace p266 := eq_true p266
             replace q266 := eq_true q266
             obtain ⟨p267, q267, ad267, e267, hx267_0⟩ := Ai (by repeat (first | (with_reducible exact HR266_0.out) | (with_reducible refine Kd.C_alloc ?_ _) | (with_reducible refine Kd.C_drewN ?_ _) | (with_reducible refine Kd.C_drew ?_) | exact HR266_0.out)) (ji36)
             cases e267
             have p268 : 0 ≤ (x49_2 : Int) := Oa
             have q268 : x49_2 < (y261.length : Int) := Oa
             obtain ⟨ad268, A268_0, c268_0, e268, hx268_0, hl268_0, hi268_0⟩ := at_L2 (Kd.S_reads' HO_8.out).2.2 x49_2 p268 q268
             obtain rfl : (⟨go24, 0, none⟩ : Addr) = ad268 := (by injection e268)
             obtain ⟨ce268, hce268, hMe268, hcc268⟩ := Kd.S_get HO_8.out [] x49_2 p268 (by first | exact q268 | exact Oa | (have e_ := (Kd.S_reads' HO_8.out).1; omega))
             obtain ⟨ve268_0, rfl, ge268_0⟩ := hMe268
             have hv268_0 := hcc268 0 _ rfl
             rw [Nat.add_zero, show ((Kd.slice 3 (Kd.int .i64))).sz = 1 from rfl, Nat.mul_one] at hv268_0
             replace hv268_0 := Option.some.inj (hv268_0.symm.trans hx268_0)
             rw [hv268_0] at ge268_0
             have HL268_0 := Aside0.mk (show Kd.R (Kd.int .i64) 3 _ _ _ _ (rd_L2 y261 x49_2) from ge268_0)
             clear hv268_0 ge268_0; clear hcc268 hce268
             (first | simp only [add_plain] at hx268_0 | simp only [add_at] at hx268_0 | simp only [Addr.add, Nat.zero_add] at hx268_0 | skip)
             have HR268_0 := Aside0.mk hi268_0
             have HC268_0 := Aside0.mk hl268_0
             clear hi268_0 hl268_0
             replace p268 := eq_true p268
             replace q268 := eq_true q268
             obtain ⟨p269, q269, ad269, e269, hx269_0⟩ := Ai (by repeat (first | (with_reducible exact HR268_0.out) | (with_reducible refine Kd.C_alloc ?_ _) | (with_reducible refine Kd.C_drewN ?_ _) | (with_reducible refine Kd.C_drew ?_) | exact HR268_0.out)) x1_2
             cases e269
             have p270 : 0 ≤ ((ji33) : Int) := Oa
             have q270 : (ji33) < (y261.length : Int) := Oa
             obtain ⟨ad270, A270_0, c270_0, e270, hx270_0, hl270_0, hi270_0⟩ := at_L2 (Kd.S_reads' HO_8.out).2.2 (ji33) p270 q270
             obtain rfl : (⟨go24, 0, none⟩ : Addr) = ad270 := (by injection e270)
             obtain ⟨ce270, hce270, hMe270, hcc270⟩ := Kd.S_get HO_8.out [] (ji33) p270 (by first | exact q270 | exact Oa | (have e_ := (Kd.S_reads' HO_8.out).1; omega))
             obtain ⟨ve270_0, rfl, ge270_0⟩ := hMe270
             have hv270_0 := hcc270 0 _ rfl
             rw [Nat.add_zero, show ((Kd.slice 3 (Kd.int .i64))).sz = 1 from rfl, Nat.mul_one] at hv270_0
             replace hv270_0 := Option.some.inj (hv270_0.symm.trans hx270_0)
             rw [hv270_0] at ge270_0
             have HL270_0 := Aside0.mk (show Kd.R (Kd.int .i64) 3 _ _ _ _ (rd_L2 y261 (ji33)) from ge270_0)
             clear hv270_0 ge270_0; clear hcc270 hce270
             (first | simp only [add_plain] at hx270_0 | simp only [add_at] at hx270_0 | simp only [Addr.add, Nat.zero_add] at hx270_0 | skip)
             have HR270_0 := Aside0.mk hi270_0
             have HC270_0 := Aside0.mk hl270_0
             clear hi270_0 hl270_0
             replace p270 := eq_true p270
             replace q270 := eq_true q270
             have ea_ := Option.some.inj (hx266_0.symm.trans hx270_0)
             injection ea_ with ea_ en_ ec_
             subst ea_
             subst ec_
             clear en_
             obtain ⟨p271, q271, ad271, e271, hx271_0⟩ := Ai (by repeat (first | (with_reducible exact HR270_0.out) | (with_reducible refine Kd.C_alloc ?_ _) | (with_reducible refine Kd.C_drewN ?_ _) | (with_reducible refine Kd.C_drew ?_) | exact HR270_0.out)) (ji36)
             cases e271
             go_wp2_with (first | ((with_reducible refine gate_builtin (b := .append) (xs := #[.tmp 98, .tmp 100]) rfl ?_); at_builtin; refine Kd.R_append (Kd.int .i64) (w0 := w) w.heap.size rfl (.tmp 98) (.tmp 100) 24 3 (.int .i64 0) 8 rfl Try.underlying24 info3 rfl (by decide) (by omega) u10 x10_2 x13_3 [.int .i64 x13_3] (fun _ => True) (fun _ => False) rfl rfl ?aP (fun _ hk => hk.elim) ?aF ?aO ?aB ?aS ?aL ?_; (case aP => exact rfl); (case aB => exact Ub); (case aF => exact (fun _ _ => trivial)); (case aO => exact (Rm HO_10.out)); (case aS => exact (below_size Ub)); (case aL => have := LMc45.out; omega); intro v273 w46 ho hb hg hat; rw [← Ny272.out] at ho; replace HO_8 := Aside0.mk (Kd.S_after (ok := (fun _ => True)) (by (with_reducible repeat (first | apply Kd.S_alloc | apply Kd.S_drewN | apply Kd.S_drew)); exact Kd.S_mono HO_8.out (fun _ hk => ⟨trivial, hk⟩)) hg hat); replace HL266_0 := Aside0.mk (Kd.R_after (ok := (fun k_ => some k_ ≠ (.slice (some ⟨go24, 0, none⟩) y261.length co24 : Value).ownBlock)) (by (with_reducible repeat (first | apply Kd.R_alloc | apply Kd.R_drewN | apply Kd.R_drew)); exact Kd.R_mono HL266_0.out (fun _ hk => ⟨hk.2, hk.1⟩)) hg hat); replace HL268_0 := Aside0.mk (Kd.R_after (ok := (fun k_ => some k_ ≠ (.slice (some ⟨go24, 0, none⟩) y261.length co24 : Value).ownBlock)) (by (with_reducible repeat (first | apply Kd.R_alloc | apply Kd.R_drewN | apply Kd.R_drew)); exact Kd.R_mono HL268_0.out (fun _ hk => ⟨hk.2, hk.1⟩)) hg hat); replace HL270_0 := Aside0.mk (Kd.R_after (ok := (fun k_ => some k_ ≠ (.slice (some ⟨go24, 0, none⟩) y261.length co24 : Value).ownBlock)) (by (with_reducible repeat (first | apply Kd.R_alloc | apply Kd.R_drewN | apply Kd.R_drew)); exact Kd.R_mono HL270_0.out (fun _ hk => ⟨hk.2, hk.1⟩)) hg hat); replace HB := Aside0.mk (hb); have HO274 := Aside0.mk (ho); clear HO_10; clear ho hb hg hat))
             repeat (go_quiet (first | ((with_reducible refine gate_builtin (b := .append) (xs := #[.tmp 98, .tmp 100]) rfl ?_); at_builtin; refine Kd.R_append (Kd.int .i64) (w0 := w) w.heap.size rfl (.tmp 98) (.tmp 100) 24 3 (.int .i64 0) 8 rfl Try.underlying24 info3 rfl (by decide) (by omega) u10 x10_2 x13_3 [.int .i64 x13_3] (fun _ => True) (fun _ => False) rfl rfl ?aP (fun _ hk => hk.elim) ?aF ?aO ?aB ?aS ?aL ?_; (case aP => exact rfl); (case aB => exact Ub); (case aF => exact (fun _ _ => trivial)); (case aO => exact (Rm HO_10.out)); (case aS => exact (below_size Ub)); (case aL => have := LMc45.out; omega); intro v273 w46 ho hb hg hat; rw [← Ny272.out] at ho; replace HO_8 := Aside0.mk (Kd.S_after (ok := (fun _ => True)) (by (with_reducible repeat (first | apply Kd.S_alloc | apply Kd.S_drewN | apply Kd.S_drew)); exact Kd.S_mono HO_8.out (fun _ hk => ⟨trivial, hk⟩)) hg hat); replace HL266_0 := Aside0.mk (Kd.R_after (ok := (fun k_ => some k_ ≠ (.slice (some ⟨go24, 0, none⟩) y261.length co24 : Value).ownBlock)) (by (with_reducible repeat (first | apply Kd.R_alloc | apply Kd.R_drewN | apply Kd.R_drew)); exact Kd.R_mono HL266_0.out (fun _ hk => ⟨hk.2, hk.1⟩)) hg hat); replace HL268_0 := Aside0.mk (Kd.R_after (ok := (fun k_ => some k_ ≠ (.slice (some ⟨go24, 0, none⟩) y261.length co24 : Value).ownBlock)) (by (with_reducible repeat (first | apply Kd.R_alloc | apply Kd.R_drewN | apply Kd.R_drew)); exact Kd.R_mono HL268_0.out (fun _ hk => ⟨hk.2, hk.1⟩)) hg hat); replace HL270_0 := Aside0.mk (Kd.R_after (ok := (fun k_ => some k_ ≠ (.slice (some ⟨go24, 0, none⟩) y261.length co24 : Value).ownBlock)) (by (with_reducible repeat (first | apply Kd.R_alloc | apply Kd.R_drewN | apply Kd.R_drew)); exact Kd.R_mono HL270_0.out (fun _ hk => ⟨hk.2, hk.1⟩)) hg hat); replace HB := Aside0.mk (hb); have HO274 := Aside0.mk (ho); clear HO_10; clear ho hb hg hat)); try go_wp2_with (first | ((with_reducible refine gate_builtin (b := .append) (xs := #[.tmp 98, .tmp 100]) rfl ?_); at_builtin; refine Kd.R_append (Kd.int .i64) (w0 := w) w.heap.size rfl (.tmp 98) (.tmp 100) 24 3 (.int .i64 0) 8 rfl Try.underlying24 info3 rfl (by decide) (by omega) u10 x10_2 x13_3 [.int .i64 x13_3] (fun _ => True) (fun _ => False) rfl rfl ?aP (fun _ hk => hk.elim) ?aF ?aO ?aB ?aS ?aL ?_; (case aP => exact rfl); (case aB => exact Ub); (case aF => exact (fun _ _ => trivial)); (case aO => exact (Rm HO_10.out)); (case aS => exact (below_size Ub)); (case aL => have := LMc45.out; omega); intro v273 w46 ho hb hg hat; rw [← Ny272.out] at ho; replace HO_8 := Aside0.mk (Kd.S_after (ok := (fun _ => True)) (by (with_reducible repeat (first | apply Kd.S_alloc | apply Kd.S_drewN | apply Kd.S_drew)); exact Kd.S_mono HO_8.out (fun _ hk => ⟨trivial, hk⟩)) hg hat); replace HL266_0 := Aside0.mk (Kd.R_after (ok := (fun k_ => some k_ ≠ (.slice (some ⟨go24, 0, none⟩) y261.length co24 : Value).ownBlock)) (by (with_reducible repeat (first | apply Kd.R_alloc | apply Kd.R_drewN | apply Kd.R_drew)); exact Kd.R_mono HL266_0.out (fun _ hk => ⟨hk.2, hk.1⟩)) hg hat); replace HL268_0 := Aside0.mk (Kd.R_after (ok := (fun k_ => some k_ ≠ (.slice (some ⟨go24, 0, none⟩) y261.length co24 : Value).ownBlock)) (by (with_reducible repeat (first | apply Kd.R_alloc | apply Kd.R_drewN | apply Kd.R_drew)); exact Kd.R_mono HL268_0.out (fun _ hk => ⟨hk.2, hk.1⟩)) hg hat); replace HL270_0 := Aside0.mk (Kd.R_after (ok := (fun k_ => some k_ ≠ (.slice (some ⟨go24, 0, none⟩) y261.length co24 : Value).ownBlock)) (by (with_reducible repeat (first | apply Kd.R_alloc | apply Kd.R_drewN | apply Kd.R_drew)); exact Kd.R_mono HL270_0.out (fun _ hk => ⟨hk.2, hk.1⟩)) hg hat); replace HB := Aside0.mk (hb); have HO274 := Aside0.mk (ho); clear HO_10; clear ho hb hg hat)))
             (try simp only [← hl8_2])
             go_roundg k3
             case measure => have := HK1.out; have := HK2.out; have := HK3.out; omega
             case rel => exact ⟨(ji36), (y272), (ji33), (by first | rfl | (simp; done) | (simp only [← hji36] <;> (first | rfl | simp)) | (simp [*]; done)), (by first | rfl | (simp; done) | (simp only [← hji33] <;> (first | rfl | simp)) | (simp [*]; done)), H', ⟨by have := HK1.out; have := HK2.out; have := HK3.out; omega⟩, ⟨by (try simp only [hl8_2]); (with_reducible repeat (first | apply Kd.S_alloc | apply Kd.S_drewN | apply Kd.S_drew)); exact Kd.S_mono HO_8.out (fun _ hk => hk.2)⟩, ⟨by (try simp only [hl8_2]); (with_reducible repeat (first | apply Kd.R_alloc | apply Kd.R_drewN | apply Kd.R_drew)); exact HO274.out⟩, ⟨Ub⟩⟩
           have c43b0 : ((wrap64 (x13_3 + (rd (rd_L2 y261 (ji33)) (ji36)))) == (rd (rd_L2 y261 x49_2) x1_2)) = false := beq_eq_false_iff_ne.mpr c43
           have c43b1 := bne_iff_ne.mpr c43
           have H' := Aside0.mk H
           clear H
           have p266 : 0 ≤ ((ji33) : Int) := Oa
           have q266 : (ji33) < (y261.length : Int) := Oa
           obtain ⟨ad266, A266_0, c266_0, e266, hx266_0, hl266_0, hi266_0⟩ := at_L2 (Kd.S_reads' HO_8.out).2.2 (ji33) p266 q266
           obtain rfl : (⟨go24, 0, none⟩ : Addr) = ad266 := (by injection e266)
           obtain ⟨ce266, hce266, hMe266, hcc266⟩ := Kd.S_get HO_8.out [] (ji33) p266 (by first | exact q266 | exact Oa | (have e_ := (Kd.S_reads' HO_8.out).1; omega))
           obtain ⟨ve266_0, rfl, ge266_0⟩ := hMe266
           have hv266_0 := hcc266 0 _ rfl
           rw [Nat.add_zero, show ((Kd.slice 3 (Kd.int .i64))).sz = 1 from rfl, Nat.mul_one] at hv266_0
           replace hv266_0 := Option.some.inj (hv266_0.symm.trans hx266_0)
           rw [hv266_0] at ge266_0
           have HL266_0 := Aside0.mk (show Kd.R (Kd.int .i64) 3 _ _ _ _ (rd_L2 y261 (ji33)) from ge266_0)
           clear hv266_0 ge266_0; clear hcc266 hce266
           (first | simp only [add_plain] at hx266_0 | simp only [add_at] at hx266_0 | simp only [Addr.add, Nat.zero_add] at hx266_0 | skip)
           have HR266_0 := Aside0.mk hi266_0
           have HC266_0 := Aside0.mk hl266_0
           clear hi266_0 hl266_0
           replace p266 := eq_true p266
           replace q266 := eq_true q266
           obtain ⟨p267, q267, ad267, e267, hx267_0⟩ := Ai (by repeat (first | (with_reducible exact HR266_0.out) | (with_reducible refine Kd.C_alloc ?_ _) | (with_reducible refine Kd.C_drewN ?_ _) | (with_reducible refine Kd.C_drew ?_) | exact HR266_0.out)) (ji36)
           cases e267
           have p268 : 0 ≤ (x49_2 : Int) := Oa
           have q268 : x49_2 < (y261.length : Int) := Oa
           obtain ⟨ad268, A268_0, c268_0, e268, hx268_0, hl268_0, hi268_0⟩ := at_L2 (Kd.S_reads' HO_8.out).2.2 x49_2 p268 q268
           obtain rfl : (⟨go24, 0, none⟩ : Addr) = ad268 := (by injection e268)
           obtain ⟨ce268, hce268, hMe268, hcc268⟩ := Kd.S_get HO_8.out [] x49_2 p268 (by first | exact q268 | exact Oa | (have e_ := (Kd.S_reads' HO_8.out).1; omega))
           obtain ⟨ve268_0, rfl, ge268_0⟩ := hMe268
           have hv268_0 := hcc268 0 _ rfl
           rw [Nat.add_zero, show ((Kd.slice 3 (Kd.int .i64))).sz = 1 from rfl, Nat.mul_one] at hv268_0
           replace hv268_0 := Option.some.inj (hv268_0.symm.trans hx268_0)
           rw [hv268_0] at ge268_0
           have HL268_0 := Aside0.mk (show Kd.R (Kd.int .i64) 3 _ _ _ _ (rd_L2 y261 x49_2) from ge268_0)
           clear hv268_0 ge268_0; clear hcc268 hce268
           (first | simp only [add_plain] at hx268_0 | simp only [add_at] at hx268_0 | simp only [Addr.add, Nat.zero_add] at hx268_0 | skip)
           have HR268_0 := Aside0.mk hi268_0
           have HC268_0 := Aside0.mk hl268_0
           clear hi268_0 hl268_0
           replace p268 := eq_true p268
           replace q268 := eq_true q268
           obtain ⟨p269, q269, ad269, e269, hx269_0⟩ := Ai (by repeat (first | (with_reducible exact HR268_0.out) | (with_reducible refine Kd.C_alloc ?_ _) | (with_reducible refine Kd.C_drewN ?_ _) | (with_reducible refine Kd.C_drew ?_) | exact HR268_0.out)) x1_2
           cases e269
           go_wp2
           repeat (go_quiet (fail); try go_wp2)
           go_roundg k3
           case measure => have := HK1.out; have := HK2.out; have := HK3.out; omega
           case rel => exact ⟨(wrap64 (x13_3 + 1)), Rs, H', ⟨by have := HK1.out; have := HK2.out; have := HK3.out; omega⟩, ⟨by (try simp only [hl8_2]); (with_reducible repeat (first | apply Kd.S_alloc | apply Kd.S_drewN | apply Kd.S_drew)); exact HO_8.out⟩, ⟨by (try simp only [hl8_2]); (with_reducible repeat (first | apply Kd.R_alloc | apply Kd.R_drewN | apply Kd.R_drew)); exact HO_10.out⟩, ⟨Ub⟩⟩
       have c30b0 := decide_eq_false c30
       clear c30
       simp only [Option.some.injEq, Prod.mk.injEq] at H
       obtain ⟨rfl, rfl⟩ := H
       go_wp2
       repeat (go_quiet (fail); try go_wp2)
       go_ret2
       exact ⟨_, by first | rfl | (simp [errW_none, errW_some] <;> rfl) | (simp only [← hji5]; first | rfl | (simp [errW_none, errW_some] <;> rfl)) | (simp [*, errW_none, errW_some] <;> rfl), Rm HO_10.out, Ub⟩
 simp only [Option.some.injEq, Prod.mk.injEq] at H
 obtain ⟨rfl, rfl⟩ := H
 go_enter Try.func9, Try.ntmps9
 go_wp2_with (first | (go_at_call 11; (with_reducible refine (impl_FewestCoins.calls k _ _ l0 a1 t248 false _ (Cm HR0.out) HC0.out A3.out).mono ?_); rintro e w47 ⟨rfl, hb⟩; replace HB := Aside0.mk (below_step Ub hb); clear hb))
 repeat (go_quiet (first | (go_at_call 11; (with_reducible refine (impl_FewestCoins.calls k _ _ l0 a1 t248 false _ (Cm HR0.out) HC0.out A3.out).mono ?_); rintro e w47 ⟨rfl, hb⟩; replace HB := Aside0.mk (below_step Ub hb); clear hb)); try go_wp2_with (first | (go_at_call 11; (with_reducible refine (impl_FewestCoins.calls k _ _ l0 a1 t248 false _ (Cm HR0.out) HC0.out A3.out).mono ?_); rintro e w47 ⟨rfl, hb⟩; replace HB := Aside0.mk (below_step Ub hb); clear hb)))
 go_ret2
 exact ⟨_, Re, Nl, Ub⟩

/-! ### spec_l1In: function 115 -/
def spec_l1In.f (a0 : Int) (a1 : Int) (a2 : Int) : Option (Bool) := if a0 ≥ a1 then (some (decide (a0 ≤ a2))) else (some false)
theorem spec_l1In.calls (a0 : Int) (a1 : Int) (a2 : Int) (r : Bool) (w : World) (h : spec_l1In.f a0 a1 a2 = some r) :
 Calls Try.prog 115 #[.int .i64 a0, .int .i64 a1, .int .i64 a2] w fun e w' => e = .returned (.bool r) ∧ Drawn0 w w' := by
 have H := h; unfold spec_l1In.f at H
 clear h
 replace H := Ic H; rcases H with ⟨c4, H⟩ | ⟨c4, H⟩
 · have c4b0 : decide (a1 ≤ a0) = true := decide_eq_true c4
   clear c4
   obtain rfl := Option.some.inj H
   go_enter Try.func115, Try.ntmps115
   go_wp2
   go_ret
   exact ⟨Rs, Dr⟩
 have c4b0 : decide (a1 ≤ a0) = false := decide_eq_false c4
 clear c4
 obtain rfl := Option.some.inj H
 go_enter Try.func115, Try.ntmps115
 go_wp2
 go_ret
 exact ⟨Rs, Dr⟩

end Go.Proofs.Ytjjajbgijncfoaa.PFnChangeGiven
