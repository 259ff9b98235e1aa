-- MADE FOR THIS CLAIM by wip/xp/xprint.py (with the kit's print; some functions' contracts proved by hand)
import Derived.Test.YtmpmiomjfhcmdaaPFnExactNeedlessCluesx0
import Derived.Test.YtmpmiomjfhcmdaaPFnExactNeedlessCluesx5
import Derived.Test.YtmpmiomjfhcmdaaPFnExactNeedlessCluesx7
namespace Go.Proofs.Ytmpmiomjfhcmdaa.PFnExactNeedlessClues
open Go.RowKit Go.Proofs.YtmpmiomjfhcmdaaW.PrintWords Go.Proofs.YtmpmiomjfhcmdaaW.PrintLast Go.Proofs.YtmpmiomjfhcmdaaW.PrintMore
attribute [local go_sem] max2_int min2_int max_two min_two max_three min_three max_four min_four   -- for this text's walks alone
set_option linter.unusedVariables false
set_option linter.unusedSimpArgs false

/-! ### slices_DeleteFunc_int_int: function 98 -/
-- GIVEN slices.DeleteFunc[[][]int,[]int] raw=1
/-- The indices of the first n rows that are kept. -/
def keptI (p : List Int → Bool) (xs : List (List Int)) (n : Nat) : List Nat := (List.range n).filter fun t => !p (xs.getD t [])
theorem keptI_succ (p : List Int → Bool) (xs : List (List Int)) (n : Nat) : keptI p xs (n + 1) = keptI p xs n ++ (if p (xs.getD n []) = true then [] else [n]) := by
  unfold keptI
  rw [List.range_succ, List.filter_append]
  cases h : p (xs.getD n []) <;> simp only [List.filter_cons, List.filter_nil, h] <;> rfl
theorem keptI_nodup (p : List Int → Bool) (xs : List (List Int)) (n : Nat) : (keptI p xs n).Nodup := List.Pairwise.filter _ List.nodup_range
theorem keptI_all (p : List Int → Bool) (xs : List (List Int)) (n : Nat) (h : ∀ j, j < n → p (xs.getD j []) = false) : keptI p xs n = List.range n := by
  unfold keptI
  rw [List.filter_eq_self]
  intro a ha
  rw [h a (List.mem_range.1 ha)]; rfl
theorem getD_range (xs : List (List Int)) : (List.range xs.length).map (fun t => xs.getD t []) = xs := by
  apply List.ext_getElem?
  intro i
  by_cases hi : i < xs.length
  · rw [List.getElem?_map, List.getElem?_range hi, Option.map_some, List.getD_eq_getElem?_getD, List.getElem?_eq_getElem hi, Option.getD_some]
  · rw [List.getElem?_eq_none (by simp; omega), List.getElem?_eq_none (by omega)]
theorem keptI_map (p : List Int → Bool) (xs : List (List Int)) : (keptI p xs xs.length).map (fun t => xs.getD t []) = xs.filter fun x => !p x := by
  have := List.filter_map (p := fun x => !p x) (f := fun t => xs.getD t []) (l := List.range xs.length)
  rw [getD_range] at this
  rw [this]; rfl
theorem keptI_lt (p : List Int → Bool) (xs : List (List Int)) (n t j : Nat) (h : (keptI p xs n)[t]? = some j) : j < n := by
  have := List.mem_of_getElem? h
  unfold keptI at this
  exact List.mem_range.1 (List.mem_filter.1 this).1
/-- How far the keeping has come. -/
structure KeepI (p : List Int → Bool) (xs : List (List Int)) (inner : List Value) (n cap i j : Nat) (cur : Array Value) : Prop where
  lt : i < j
  jn : j ≤ n
  size : cur.size = cap
  len : i = (keptI p xs j).length
  low : ∀ (t k : Nat), (keptI p xs j)[t]? = some k → cur[t]? = inner[k]?
  high : ∀ (t : Nat), j ≤ t → t < n → cur[t]? = inner[t]?
theorem KeepI.skip {p : List Int → Bool} {xs : List (List Int)} {inner : List Value} {n cap i j : Nat} {cur : Array Value} (h : KeepI p xs inner n cap i j cur) (hj : j < n) (hp : p (xs.getD j []) = true) : KeepI p xs inner n cap i (j + 1) cur := by
  have e : keptI p xs (j + 1) = keptI p xs j := by rw [keptI_succ, if_pos hp, List.append_nil]
  exact ⟨Nat.lt_succ_of_lt h.lt, hj, h.size, by rw [e]; exact h.len, by rw [e]; exact h.low, fun t ht hn => h.high t (by omega) hn⟩
theorem KeepI.keep {p : List Int → Bool} {xs : List (List Int)} {inner : List Value} {n cap i j : Nat} {cur : Array Value} (h : KeepI p xs inner n cap i j cur) (hj : j < n) (hnc : n ≤ cap) (hp : p (xs.getD j []) = false) {u : Value} (hu : inner[j]? = some u) : KeepI p xs inner n cap (i + 1) (j + 1) (cur.setIfInBounds i u) := by
  have e : keptI p xs (j + 1) = keptI p xs j ++ [j] := by rw [keptI_succ, if_neg (by rw [hp]; decide)]
  have hij := h.lt
  refine ⟨by omega, hj, by rw [Array.size_setIfInBounds]; exact h.size, by rw [e, List.length_append, ← h.len]; rfl, ?_, ?_⟩
  · intro t k ht
    rw [e] at ht
    by_cases c : t < i
    · rw [List.getElem?_append_left (by rw [← h.len]; exact c)] at ht
      rw [Array.getElem?_setIfInBounds_ne (by omega)]
      exact h.low t k ht
    · by_cases c2 : t = i
      · subst c2
        rw [List.getElem?_append_right (by rw [← h.len]; exact Nat.le_refl _), ← h.len, Nat.sub_self] at ht
        obtain rfl := Option.some.inj ht
        rw [hu]
        have : t < cur.size := by rw [h.size]; omega
        simp [this]
      · rw [List.getElem?_eq_none (by rw [List.length_append, ← h.len]; simp; omega)] at ht
        cases ht
  · intro t ht hn
    rw [Array.getElem?_setIfInBounds_ne (by omega)]
    exact h.high t (by omega) hn

set_option maxHeartbeats 4000000 in
set_option maxRecDepth 100000 in
theorem deleteFunc_hit (p : List Int → Bool) (g : Nat) (lb : Array Value) (eg : ∀ args w, (callFunc g args).run Try.prog w = .ok (.enter g args) w) (base gb cap k0 : Nat) (xs : List (List Int)) (inner : List Value) (cur0 : Array Value) (w0 w : World)
    (hbg : base ≤ gb) (hn : xs.length ≤ 1000000) (hnc : xs.length ≤ cap) (hcm : cap ≤ 9223372036854775807)
    (hgb : w.heap[gb]? = some (.cells cur0 26 (0, 0))) (hsz : cur0.size = cap) (hin : ∀ t, t < xs.length → cur0[t]? = inner[t]?)
    (hrow : ∀ W, Kept w W (fun k => k = gb) → ∀ j, j < xs.length → ∃ A c, inner[j]? = some (.slice A (xs.getD j []).length c) ∧ (xs.getD j []).length ≤ c ∧ Kd.C (Kd.int .i64) W A (xs.getD j []).length (xs.getD j []))
    (hB : Below base w0 w) (hp : PredR g lb p xs (fun W => Below base w0 W))
    (hk0 : k0 < xs.length) (hpk : p (xs.getD k0 []) = true) (hlow : ∀ j, j < k0 → p (xs.getD j []) = false)
    (hIF : Calls Try.prog 111 #[.slice (some ⟨gb, 0, none⟩) xs.length cap, .func (.func g) #[] lb] w fun e w' => e = .returned (.int .i64 k0) ∧ Below w.heap.size w w') :
    Calls Try.prog 98 #[.slice (some ⟨gb, 0, none⟩) xs.length cap, .func (.func g) #[] lb] w fun e w' => e = .returned (.slice (some ⟨gb, 0, none⟩) (keptI p xs xs.length).length cap) ∧ ∃ cur, w'.heap[gb]? = some (.cells cur 26 (0, 0)) ∧ cur.size = cap ∧ (∀ (t k : Nat), (keptI p xs xs.length)[t]? = some k → cur[t]? = inner[k]?) ∧ Kept w w' (fun k => k = gb) ∧ Below base w0 w' := by
  have HGB := Aside0.mk hgb
  have HIN := Aside0.mk hin
  have HROW := Aside0.mk hrow
  have HB := Aside0.mk hB
  have HP := Aside0.mk hp
  have HLOW := Aside0.mk hlow
  have HPK := Aside0.mk hpk
  have HIF := Aside0.mk hIF
  have hne1 : ((k0 : Int) == -1) = false := beq_eq_false_iff_ne.2 (by omega)
  clear hgb hin hrow hB hp hlow hpk hIF
  go_enter Try.func98, Try.ntmps98
  go_wp2_with (go_at_call 111; refine HIF.out.mono ?_; rintro e w1 ⟨rfl, hb1⟩)
  go_loopg [5, 6, 7] xs.length (fun gg s5 s6 _ wr => ∃ (i j : Nat) (cur : Array Value), s5 = .int .i64 i ∧ s6 = .int .i64 j ∧ Aside0 (xs.length - j ≤ gg) ∧ Aside0 (wr.heap[gb]? = some (.cells cur 26 (0, 0))) ∧ Aside0 (KeepI p xs inner xs.length cap i j cur) ∧ Aside0 (Kept w wr (fun k => k = gb)) ∧ Aside0 (Below base w0 wr))
  case atStart =>
    have hbw : base ≤ w.heap.size := Nat.le_trans hbg (Nat.le_of_lt (blk_lt HGB.out))
    refine ⟨k0, k0 + 1, cur0, rfl, (by first | rfl | go_num), ⟨by omega⟩, ⟨blk_below HGB.out hb1⟩, ⟨⟨by omega, by omega, hsz, ?_, ?_, fun t h1 h2 => HIN.out t h2⟩⟩, ⟨Kept.of_below hb1 _⟩, ⟨below_then HB.out hbw hb1⟩⟩
    · rw [keptI_succ, if_pos HPK.out, List.append_nil, keptI_all p xs k0 HLOW.out, List.length_range]
    · intro t k ht
      have := keptI_lt p xs _ t k ht
      rw [keptI_succ, if_pos HPK.out, List.append_nil, keptI_all p xs k0 HLOW.out] at ht
      have h2 : t < k0 := by
        have := (List.getElem?_eq_some_iff.1 ht).1
        rwa [List.length_range] at this
      rw [List.getElem?_range h2] at ht
      obtain rfl := Option.some.inj ht
      exact HIN.out t (by omega)
  case round =>
    obtain ⟨i, j, cur, rfl, rfl, HM, HG, HI, HK, HB'⟩ := hrel
    have hij := HI.out.lt
    have hjn := HI.out.jn
    by_cases hlt : j < xs.length
    · obtain ⟨A, c, hj1, hlc, hC⟩ := HROW.out wr HK.out j hlt
      have hcall := HP.out wr A c _ (getD_mem xs j [] hlt) HB'.out hC hlc
      have hcj : wr.cell? ⟨gb, j, none⟩ = some (.slice A (xs.getD j []).length c) := (blk_cell HG.out j).trans ((HI.out.high j (Nat.le_refl _) hlt).trans hj1)
      obtain ⟨old, hold⟩ : ∃ old, cur[i]? = some old := ⟨cur[i]'(by rw [HI.out.size]; omega), Array.getElem?_eq_getElem _⟩
      have HJ := Aside0.mk hj1
      have HOLD := Aside0.mk hold
      have hltz : (j : Int) < (xs.length : Int) := by omega
      have hiz : (i : Int) < (xs.length : Int) := by omega
      cases hq : p (xs.getD j []) with
      | false =>
        rw [hq] at hcall
        have HQ := Aside0.mk hq
        clear hq hj1 hold hC hlc
        generalize hrow : xs.getD j [] = row at hcj hcall
        have HRJ := Aside0.mk hrow
        clear hrow
        go_wp2_with (go_at_fn g; refine hcall.mono ?_; rintro e w' ⟨rfl, hb'⟩; have hC2 := Aside0.mk (blk_below HG.out hb'); have hci2 : w'.cell? ⟨gb, i, none⟩ = some old := (blk_cell hC2.out i).trans HOLD.out; have hfi2 := blk_frozen hC2.out i)
        go_roundg (gk - 1)
        case measure => have := HM.out; omega
        case rel =>
          have hm := HM.out
          refine ⟨i + 1, j + 1, cur.setIfInBounds i (.slice A row.length c), (by first | rfl | go_num), (by first | rfl | go_num), ⟨by omega⟩, ⟨blk_set hC2.out i _⟩, ⟨HI.out.keep hlt hnc HQ.out (by rw [← HRJ.out]; exact HJ.out)⟩, ⟨(HK.out.below hb').setCell (p := ⟨gb, i, none⟩) (.inl rfl) _⟩, ⟨?_⟩⟩
          exact Below.setCell (below_then HB'.out (Nat.le_trans hbg (Nat.le_of_lt (blk_lt HG.out))) hb') (p := ⟨gb, i, none⟩) hbg _
      | true =>
        rw [hq] at hcall
        have HQ := Aside0.mk hq
        clear hq hj1 hold hC hlc
        generalize hrow : xs.getD j [] = row at hcj hcall
        have HRJ := Aside0.mk hrow
        clear hrow
        go_wp2_with (go_at_fn g; refine hcall.mono ?_; rintro e w' ⟨rfl, hb'⟩)
        go_roundg (gk - 1)
        case measure => have := HM.out; omega
        case rel =>
          have hm := HM.out
          exact ⟨i, j + 1, cur, rfl, (by first | rfl | go_num), ⟨by omega⟩, ⟨blk_below HG.out hb'⟩, ⟨HI.out.skip hlt HQ.out⟩, ⟨HK.out.below hb'⟩, ⟨below_then HB'.out (Nat.le_trans hbg (Nat.le_of_lt (blk_lt HG.out))) hb'⟩⟩
    · obtain rfl : j = xs.length := by omega
      have hltz : ¬ (xs.length : Int) < (xs.length : Int) := by omega
      have hiz : (i : Int) < (xs.length : Int) := by omega
      have hcl : ∀ ty, (Builtin.clear_ #[22] ty #[.slice (some ⟨gb, i, none⟩) (xs.length - i) (cap - i)]).run Try.prog wr = .ok (.tuple #[]) (wr.setCells gb i (List.replicate (xs.length - i) (.slice none 0 0))) :=
        fun ty => Lib.run_clear_slice wr _ _ ty _ Try.underlying22 (fun _ => by kernel_rfl) rfl rfl gb i _ _ (by omega) (fun t ht => by rw [blk_cell HG.out, Array.getElem?_eq_getElem (by rw [HI.out.size]; omega)]; rfl) (fun t ht => blk_frozen HG.out _)
      obtain ⟨cs', h1, h2, h3⟩ := blk_cells (List.replicate (xs.length - i) (Value.slice none 0 0)) i wr cur HG.out
      have H1 := Aside0.mk h1
      have H3 := Aside0.mk h3
      clear h1 h3
      go_wp2
      go_ret
      refine ⟨by rw [← HI.out.len]; rfl, cs', H1.out, by rw [h2, HI.out.size], ?_, ?_, ?_⟩
      · intro t k ht
        have htl : t < i := by rw [HI.out.len]; exact (List.getElem?_eq_some_iff.1 ht).1
        rw [H3.out t (by rw [HI.out.size]; omega), if_neg (by omega)]
        exact HI.out.low t k ht
      · exact Kept.of_grown (own_cells _ _ _) HK.out (fun k e => by cases e; exact .inl rfl)
      · exact HB'.out.grown (own_cells _ _ _) (Nat.le_trans hbg (Nat.le_of_lt (blk_lt HG.out))) (fun k e => by cases e; exact hbg)
theorem hit_upto (p : List Int → Bool) (l : List (List Int)) : ∀ m : Nat, (∀ j, j < m → p (l.getD j []) = false) ∨ ∃ k, k < m ∧ p (l.getD k []) = true ∧ ∀ j, j < k → p (l.getD j []) = false
  | 0 => .inl fun j hj => absurd hj (Nat.not_lt_zero j)
  | m + 1 => by
    rcases hit_upto p l m with h | ⟨k, hk, ht, h⟩
    · cases e : p (l.getD m []) with
      | true => exact .inr ⟨m, Nat.lt_succ_self m, e, h⟩
      | false =>
        refine .inl fun j hj => ?_
        by_cases c : j = m
        · rw [c]; exact e
        · exact h j (by omega)
    · exact .inr ⟨k, by omega, ht, h⟩
theorem hit_exists (p : List Int → Bool) (l : List (List Int)) : ∃ i, Hit p l i := by
  rcases hit_upto p l l.length with h | ⟨k, hk, ht, h⟩
  · exact ⟨-1, .inl ⟨rfl, h⟩⟩
  · exact ⟨k, .inr ⟨k, rfl, hk, ht, h⟩⟩
theorem hit_unique {p : List Int → Bool} {l : List (List Int)} {i i' : Int} (h : Hit p l i) (h' : Hit p l i') : i' = i := by
  rcases h with ⟨rfl, h⟩ | ⟨k, rfl, hk, ht, h⟩ <;> rcases h' with ⟨rfl, h'⟩ | ⟨k', rfl, hk', ht', h'⟩
  · rfl
  · rw [h k' hk'] at ht'; cases ht'
  · rw [h' k hk] at ht; cases ht
  · rcases Nat.lt_trichotomy k k' with c | c | c
    · rw [h' k c] at ht; cases ht
    · rw [c]
    · rw [h k' c] at ht'; cases ht'

set_option maxHeartbeats 2000000 in
theorem deleteFunc_rows (p : List Int → Bool) (g : Nat) (lb : Array Value) (eg : ∀ args w, (callFunc g args).run Try.prog w = .ok (.enter g args) w) (base : Nat) (v : Value) (xs : List (List Int)) (w0 w : World)
    (HS : Kd.S (Kd.slice 3 (Kd.int .i64)) 26 w base (fun _ => True) v xs) (hn : xs.length ≤ 1000000) (hbw : base ≤ w.heap.size) (hB : Below base w0 w) (hp : PredR g lb p xs (fun W => Below base w0 W)) :
    Calls Try.prog 98 #[v, .func (.func g) #[] lb] w fun e w' => ∃ v', e = .returned v' ∧ Kd.S (Kd.slice 3 (Kd.int .i64)) 26 w' base (fun _ => True) v' (xs.filter fun x => !p x) ∧ Below base w0 w' := by
  obtain ⟨A, c, rfl⟩ := Kd.S_slice HS
  have hrd := Kd.S_reads' HS
  obtain ⟨i, hi⟩ := hit_exists p xs
  have hIF := indexFunc_rows p g lb eg A c xs w hrd.2.2 hrd.2.1 (fun W A c l hl hW => hp W A c l hl (below_then hB hbw hW))
  have hIF2 : Calls Try.prog 111 #[.slice A xs.length c, .func (.func g) #[] lb] w fun e w' => e = .returned (.int .i64 i) ∧ Below w.heap.size w w' := by
    refine hIF.mono ?_
    rintro e w' ⟨⟨i', rfl, hi'⟩, hb⟩
    rw [hit_unique hi hi']
    exact ⟨rfl, hb⟩
  clear hIF
  rcases hi with ⟨rfl, hall⟩ | ⟨k0, rfl, hk0, hpk, hlow⟩
  · have hf : (xs.filter fun x => !p x) = xs := by
      rw [List.filter_eq_self]
      intro x hx
      obtain ⟨j, hj, rfl⟩ := List.getElem_of_mem hx
      have := hall j hj
      rw [List.getD_eq_getElem?_getD, List.getElem?_eq_getElem hj, Option.getD_some] at this
      rw [this]; rfl
    have HF := Aside0.mk hf
    have HSS := Aside0.mk HS
    have HIF := Aside0.mk hIF2
    clear HS hp hf hall hIF2 hrd
    go_enter Try.func98, Try.ntmps98
    go_wp2_with (go_at_call 111; refine HIF.out.mono ?_; rintro e w1 ⟨rfl, hb1⟩)
    go_ret
    exact ⟨_, rfl, by rw [HF.out]; exact Kd.S_below HSS.out hb1, below_then hB hbw hb1⟩
  · obtain ⟨gb, cap, e1, hbg, hgl, _⟩ := Kd.S_form HS (by omega)
    injection e1 with e1 _ e2
    subst e1; subst e2
    obtain ⟨f, hok, inner, ho, hr⟩ := HS
    obtain ⟨hil, ho2⟩ := ho
    rcases ho2 with ⟨h, _⟩ | ⟨g', cap', cur, h, hb', hh, hnc, hcm, hcs, hct⟩
    · cases h
    injection h with h1 _ h3
    injection h1 with h1
    injection h1 with h1
    subst h1; subst h3
    have hzl : xs.zipIdx.length = xs.length := List.length_zipIdx
    rw [hzl] at hnc hct hil
    have hs1 : (Kd.tag f (Kd.slice 3 (Kd.int .i64))).sz = 1 := rfl
    rw [hs1, Nat.mul_one] at hct hil hcs
    have hin : ∀ t, t < xs.length → cur[t]? = inner[t]? := by
      intro t ht
      rw [← hct, List.getElem?_take_of_lt ht, Array.getElem?_toList]
    have hM : ∀ W, Kept w W (fun k => k = gb) → ∀ j, j < xs.length → ∃ u, inner[j]? = some u ∧ (Kd.slice 3 (Kd.int .i64)).M W base (fun k => (True ∧ some k ≠ (Value.slice (some ⟨gb, 0, none⟩) xs.length c).ownBlock) ∧ f k = j) (xs.getD j []) [u] := by
      intro W hW j hj
      have h := hr.2 j (xs[j], j) (Kd.zip_at (List.getElem?_eq_getElem hj))
      rw [hs1, Nat.mul_one] at h
      obtain ⟨u, hu⟩ : ∃ u, inner[j]? = some u := ⟨inner[j]'(by omega), List.getElem?_eq_getElem _⟩
      have e : (inner.drop j).take 1 = [u] := by
        rw [List.drop_eq_getElem_cons (by omega)]
        rw [List.getElem?_eq_getElem (by omega)] at hu
        cases hu; rfl
      rw [e] at h
      refine ⟨u, hu, ?_⟩
      rw [List.getD_eq_getElem?_getD, List.getElem?_eq_getElem hj, Option.getD_some]
      exact Kd.M_kept h hW (fun k hk e => hk.1.2 (by rw [e]; rfl))
    have hrow : ∀ W, Kept w W (fun k => k = gb) → ∀ j, j < xs.length → ∃ A c, inner[j]? = some (.slice A (xs.getD j []).length c) ∧ (xs.getD j []).length ≤ c ∧ Kd.C (Kd.int .i64) W A (xs.getD j []).length (xs.getD j []) := by
      intro W hW j hj
      obtain ⟨u, hu, h⟩ := hM W hW j hj
      obtain ⟨A, c, e, hc, hC⟩ := (Kd.slice 3 (Kd.int .i64)).K_of_M h
      cases e
      exact ⟨A, c, hu, hc, hC⟩
    refine (deleteFunc_hit p g lb eg base gb c k0 xs inner cur w0 w hbg hn hnc (by have e : maxLen = 9223372036854775807 := rfl; omega) hh hcs hin hrow hB hp hk0 hpk hlow hIF2).mono ?_
    rintro e w' ⟨rfl, cur', h1, h2, h3, h4, h5⟩
    have hkm := keptI_map p xs
    have hkl : ((xs.filter fun x => !p x)).length = (keptI p xs xs.length).length := by rw [← hkm, List.length_map]
    have hcl : cur'.toList.length = c := by rw [← h2]; exact Array.length_toList
    have hkx : (keptI p xs xs.length).length ≤ xs.length := by rw [← hkl]; exact List.length_filter_le _ _
    refine ⟨_, rfl, ?_, h5⟩
    obtain ⟨f', hR⟩ := Kd.reps_tag (d := Kd.slice 3 (Kd.int .i64)) (w := w') (base := base) (ok := fun k => True ∧ some k ≠ (Value.slice (some ⟨gb, 0, none⟩) (keptI p xs xs.length).length c).ownBlock) (xs := xs.filter fun x => !p x) (inner := cur'.toList.take (keptI p xs xs.length).length)
      (fun t k => (True ∧ some k ≠ (Value.slice (some ⟨gb, 0, none⟩) xs.length c).ownBlock) ∧ (keptI p xs xs.length)[t]? = some (f k))
      (fun i j k hi hj => (List.getElem?_inj (List.getElem?_eq_some_iff.1 hi.2).1 (keptI_nodup p xs _)).1 (hi.2.trans hj.2.symm))
      (fun j k hk => hk.1)
      (by rw [hkl, List.length_take, hcl]; show _ = _ * 1; omega)
      (fun t x hx => by
        rw [← hkm, List.getElem?_map] at hx
        obtain ⟨k, hk, rfl⟩ := Option.map_eq_some_iff.1 hx
        have hkn := keptI_lt p xs _ t k hk
        obtain ⟨u, hu, hmu⟩ := hM w' h4 k hkn
        have htl := (List.getElem?_eq_some_iff.1 hk).1
        have e : ((cur'.toList.take (keptI p xs xs.length).length).drop (t * 1)).take 1 = [u] := by
          have hcu : cur'.toList[t]? = some u := by rw [Array.getElem?_toList, h3 t k hk, hu]
          rw [Nat.mul_one, List.drop_take, List.take_take, List.drop_eq_getElem_cons (by rw [hcl]; omega), Nat.min_eq_left (by omega), List.take_succ_cons, List.take_zero]
          rw [List.getElem?_eq_getElem (by rw [hcl]; omega)] at hcu
          cases hcu; rfl
        show (Kd.slice 3 (Kd.int .i64)).M w' base _ _ (((cur'.toList.take (keptI p xs xs.length).length).drop (t * 1)).take 1)
        rw [e]
        exact (Kd.slice 3 (Kd.int .i64)).M_mono (fun q hq => ⟨hq.1, by rw [hk, hq.2]⟩) hmu)
    refine ⟨f', fun _ _ => trivial, _, ⟨?_, .inr ⟨gb, c, cur', by rw [List.length_zipIdx, hkl], hbg, h1, ?_, hcm, ?_, ?_⟩⟩, hR⟩
    · rw [List.length_zipIdx, hkl, List.length_take, hcl]; show _ = _ * 1; omega
    · rw [List.length_zipIdx, hkl]; omega
    · rw [h2]; show _ = _ * 1; omega
    · rw [List.length_zipIdx, hkl]; show List.take (_ * 1) _ = _; rw [Nat.mul_one]


/-! ### slices_Clone_int_int: function 114 -/
/-- A copy. -/
def slices_Clone_int_int.f (l0 : List Int) : Option (List Int) := if l0.length < 4398046511104 then (some l0) else (none)
set_option maxHeartbeats 2000000 in
set_option maxRecDepth 100000 in
theorem slices_Clone_int_int.calls (A0 : Option Addr) (c0 : Nat) (l0 : List Int) (r : List Int) (w : World) (hr0 : Kd.C (Kd.int .i64) w A0 l0.length l0) (hc0 : l0.length ≤ c0) (h : slices_Clone_int_int.f l0 = some r) :
    Calls Try.prog 114 #[.slice A0 l0.length c0] w fun e w' => ∃ v0_ : Value, e = .returned (v0_) ∧ Kd.R (Kd.int .i64) 3 w' w.heap.size (fun _ => True) v0_ r ∧ Below w.heap.size w w' := by
  have HR0 := Aside0.mk hr0
  have HB := Aside0.mk (Below.refl w.heap.size w)
  by_cases c2 : l0.length < 4398046511104
  · have H : l0 = r := by unfold slices_Clone_int_int.f at h; rw [if_pos c2] at h; exact Option.some.inj h
    subst H
    clear h
    have LM := Aside0.mk c2
    clear c2 hr0 hc0
    cases A0 with
    | none =>
      have hnil := fun W => Go.Lib.run_eql_slice_nil (P := Try.prog) W 26 3 none l0.length c0 0 0 Try.underlying26
      go_enter Try.func114, Try.ntmps114
      go_wp2
      go_ret
      have e0 : l0 = [] := by
        rcases l0 with _ | ⟨x, s⟩
        · rfl
        · obtain ⟨ad, he, _⟩ := HR0.out.2.2 (by simp)
          cases he
      subst e0
      exact ⟨_, rfl, Kd.R_nil _ _ _ _ _, Below.refl _ _⟩
    | some ad =>
      have hnil := fun W => Go.Lib.run_eql_slice_nil (P := Try.prog) W 26 3 (some ad) l0.length c0 0 0 Try.underlying26
      go_enter Try.func114, Try.ntmps114
      go_wp2_with (first | ((with_reducible refine gate_dst (N := 5) rfl ?_); refine Kd.R_lit (Kd.int .i64) _ 3 ?hg (N := 5) ?hd (xs := ([] : List Int)) (inner := []) (ok := fun _ => True) (okp := fun _ => True) ?hr ?hp (fun _ hk => hk) trivial (Below.refl _ _) (Nat.le_refl _) (by simp) ?_; (case hd => rfl); (case hg => rfl); (case hr => first | (go_simp; done) | (go_simp; rfl)); (case hp => exact (Reps.none _ _)); intro v120 w3 ho4 hb hg_ hnew_; clear hg_ hnew_; have n0_ := Aside0.mk (Kd.R_lower ho4 (below_size (by repeat (first | (with_reducible first | exact HB.out | apply below_alloc | apply pw_below_drewN | apply below_drew1) | exact HB.out)))); have n1_ := Aside0.mk (below_step (by repeat (first | (with_reducible first | exact HB.out | apply below_alloc | apply pw_below_drewN | apply below_drew1) | exact HB.out)) hb); clear HB; have HO121 := n0_; have HB := n1_; clear n0_ n1_; clear hb ho4) | ((with_reducible refine gate_builtin (b := .append) (xs := #[.tmp 5, .tmp 6]) rfl ?_); at_builtin; refine Kd.R_append_rows (Kd.int .i64) (w0 := w) w.heap.size rfl (.tmp 5) (.tmp 6) 26 3 (.int .i64 0) 8 rfl Try.underlying26 info3 rfl (by decide) (by omega) v120 [] l0 _ _ _ (fun _ => True) (fun _ => False) rfl rfl ?aO ?aR (fun _ _ h => h) (fun _ h => h.elim) ?aF ?aB ?aS ?aL ?_; (case aR => repeat (first | exact (Kd.C_below HR0.out HB.out) | (with_reducible refine Kd.C_alloc ?_ _) | (with_reducible refine Kd.C_drewN ?_ _) | (with_reducible refine Kd.C_drew ?_))); (case aB => exact (by repeat (first | (with_reducible first | exact HB.out | apply below_alloc | apply pw_below_drewN | apply below_drew1) | exact HB.out))); (case aF => exact (fun _ _ => trivial)); (case aO => exact (by (with_reducible repeat (first | apply Kd.R_alloc | apply Kd.R_drewN | apply Kd.R_drew)); exact HO121.out)); (case aS => exact (below_size (by repeat (first | (with_reducible first | exact HB.out | apply below_alloc | apply pw_below_drewN | apply below_drew1) | exact HB.out)))); (case aL => have := LM.out; simp; omega); intro v123 w5 ho hb hg hat; have n0_ := Aside0.mk (hb); have n1_ := Aside0.mk (ho); clear HB; clear HO121; have HB := n0_; have HO124 := n1_; clear n0_ n1_; clear ho hb hg hat))
      go_ret
      exact ⟨_, rfl, HO124.out, HB.out⟩
  · unfold slices_Clone_int_int.f at h
    rw [if_neg c2] at h
    cases h


/-! ### impl_hidden_1: function 118 -/
-- GIVEN loop.example/g01305/impl.hidden$1 raw=1
-- NEEDS slices.Clone[[]int,int]
-- USES hidden
/-- What a look has done: the box has rows, the elder blocks are kept. -/
def HidP (gO gP g22 g115 : Nat) (fv : Value) (base : Nat) (w0 w : World) (v0 : Value) (tot : List (List Int)) (w' : World) : Prop :=
  ∃ v', w'.heap[gO]? = some (.cells #[v'] g22 (0, 0)) ∧ w'.heap[gP]? = some (.cells #[fv] g115 (0, 0)) ∧ Kd.S (Kd.slice 3 (Kd.int .i64)) 26 w' base (fun _ => True) v' tot ∧ Kept w w' (fun k => k = gO ∨ some k = v0.ownBlock) ∧ (∀ k, v'.ownBlock = some k → v0.ownBlock = some k ∨ w.heap.size ≤ k) ∧ Below base w0 w'

set_option maxHeartbeats 2000000 in
set_option maxRecDepth 100000 in
theorem hidden_1 (gO gP base : Nat) (w0 : World) (hbO : base ≤ gO) : ∀ (d : Nat) (A : Option Addr) (c : Nat) (l : List Int) (p : Int) (v : Value) (xs : List (List Int)) (w : World),
    l.length + d = 4 → 1 ≤ p → p ≤ 6 → (xs ++ hidL d l p).length ≤ 1000000 →
    w.heap[gO]? = some (.cells #[v] 22 (0, 0)) → w.heap[gP]? = some (.cells #[.func (.func 118) #[] #[.pointer (some ⟨gO, 0, none⟩), .pointer (some ⟨gP, 0, none⟩)]] 115 (0, 0)) →
    Below base w0 w → base ≤ w.heap.size →
    Kd.S (Kd.slice 3 (Kd.int .i64)) 26 w base (fun k => some k ≠ (Value.slice A l.length c).ownBlock) v xs →
    Kd.R (Kd.int .i64) 3 w base (fun _ => True) (.slice A l.length c) l →
    Calls Try.prog 118 #[.slice A l.length c, .int .i64 p, .pointer (some ⟨gO, 0, none⟩), .pointer (some ⟨gP, 0, none⟩)] w fun e w' => e = .returned (.tuple #[]) ∧ HidP gO gP 22 115 (.func (.func 118) #[] #[.pointer (some ⟨gO, 0, none⟩), .pointer (some ⟨gP, 0, none⟩)]) base w0 w v (xs ++ hidL d l p) w' := by
  intro d
  induction d with
  | zero =>
    intro A c l p v xs w hl hp1 hp6 hlen hO hP hB hbase hS hR
    have HO := Aside0.mk hO
    have HP := Aside0.mk hP
    have HB := Aside0.mk hB
    have HBS := Aside0.mk hbase
    have HS := Aside0.mk hS
    have HR := Aside0.mk hR
    have HL := Aside0.mk hlen
    have hcO : w.cell? ⟨gO, 0, none⟩ = some v := (blk_cell hO 0).trans rfl
    have hcP : w.cell? ⟨gP, 0, none⟩ = some (.func (.func 118) #[] #[.pointer (some ⟨gO, 0, none⟩), .pointer (some ⟨gP, 0, none⟩)]) := (blk_cell hP 0).trans rfl
    have hl4 : ((l.length : Int) == 4) = true := by simp; omega
    clear hO hP hB hbase hS hR hlen
    go_enter Try.func118, Try.ntmps118
    go_wp2_with ((with_reducible refine gate_builtin (b := .append) (xs := #[.tmp 7, .tmp 9]) rfl ?_); at_builtin; refine Aside0.out ?_)
    refine Aside0.mk ?_
    refine Kd.S_append (Kd.slice 3 (Kd.int .i64)) (w0 := w0) base rfl (.tmp 7) (.tmp 9) 22 26 (.slice none 0 0) 24 rfl Try.underlying22 info26 rfl (by decide) (by omega) v xs l [.slice A l.length c] (fun _ => True) (fun k => some k = (Value.slice A l.length c).ownBlock) rfl (by first | (go_simp; done) | (go_simp; rfl)) ?aP ?aK ?aF ?aO ?aB ?aS ?aL ?_
    (case aP => exact Kd.M_row (Kd.R_mono (Kd.R_tight rfl HR.out) (fun _ h_ => h_)))
    (case aK => intro k hk; refine ⟨trivial, fun e => ?_⟩; obtain ⟨cs1, h1⟩ := Kd.R_typed HR.out k hk.symm; obtain ⟨cs2, h2⟩ := Kd.S_typed HS.out k e.symm; rw [h1] at h2; cases h2)
    (case aF => exact fun _ _ => trivial)
    (case aO => exact (Kd.S_mono HS.out (fun k hk => ⟨trivial, hk⟩)))
    (case aB => exact HB.out)
    (case aS => have := HBS.out; omega)
    (case aL => have := HL.out; simp [hidL] at this; omega)
    intro v1 w1 ho hb hg hat
    obtain ⟨A1, c1, rfl⟩ := Kd.S_slice ho
    have hne := Kd.S_ne HS.out HO.out (by decide)
    have hneP := Kd.S_ne HS.out HP.out (by decide)
    have HO1 := Aside0.mk (blk_grown HO.out hg hne)
    have HP1 := Aside0.mk (blk_grown HP.out hg hneP)
    have hcO1 : w1.cell? ⟨gO, 0, none⟩ = some v := (blk_cell HO1.out 0).trans rfl
    have hfO1 := blk_frozen HO1.out 0
    have HG := Aside0.mk hg
    have HT := Aside0.mk hat
    have HS1 := Aside0.mk ho
    have HB1 := Aside0.mk hb
    clear hb ho hg hat hcO hcP
    go_wp2
    refine bodyPost_ret (results_none rfl _ _ _) rfl ?_
    have hgP : gP ≠ gO := blk_ne HP.out HO.out (by decide)
    have HO2 := Aside0.mk (blk_put HO1.out 0 (.slice A1 (xs ++ [l]).length c1) (cs' := #[.slice A1 (xs ++ [l]).length c1]) rfl)
    have HP2 := Aside0.mk (blk_far HP1.out (p := ⟨gO, 0, none⟩) hgP (.slice A1 (xs ++ [l]).length c1))
    have HS2 := Aside0.mk (Kd.S_set HS1.out HO1.out (by decide) 0 (.slice A1 (xs ++ [l]).length c1))
    have HK2 := Aside0.mk (Kept.setCell (p := ⟨gO, 0, none⟩) (Kept.of_grown HG.out (Kept.refl w (fun k => k = gO ∨ some k = v.ownBlock)) (fun k e => .inl (.inr e.symm))) (.inl (.inl rfl)) (.slice A1 (xs ++ [l]).length c1))
    have HB2 := Aside0.mk (Below.setCell HB1.out (p := ⟨gO, 0, none⟩) hbO (.slice A1 (xs ++ [l]).length c1))
    have HT2 : Aside0 (∀ k, (Value.slice A1 (xs ++ [l]).length c1).ownBlock = some k → v.ownBlock = some k ∨ w.heap.size ≤ k) := ⟨fun k e => by
      rcases HT.out with h | ⟨b, h, hb⟩
      · exact .inl (h ▸ e)
      · rw [h] at e; cases e; exact .inr hb⟩
    rw [show xs.length + 1 = (xs ++ [l]).length by simp]
    exact ⟨rfl, _, HO2.out, HP2.out, HS2.out, HK2.out, HT2.out, HB2.out⟩
  | succ d ih =>
    intro A c l p v xs w hl hp1 hp6 hlen hO hP hB hbase hS hR
    have HO := Aside0.mk hO
    have HP := Aside0.mk hP
    have HB := Aside0.mk hB
    have HBS := Aside0.mk hbase
    have HS := Aside0.mk hS
    have HR := Aside0.mk hR
    have HL := Aside0.mk hlen
    have IH := Aside0.mk ih
    have hcO : w.cell? ⟨gO, 0, none⟩ = some v := (blk_cell hO 0).trans rfl
    have hcP : w.cell? ⟨gP, 0, none⟩ = some (.func (.func 118) #[] #[.pointer (some ⟨gO, 0, none⟩), .pointer (some ⟨gP, 0, none⟩)]) := (blk_cell hP 0).trans rfl
    have hl4 : ((l.length : Int) == 4) = false := by simp; omega
    clear hO hP hB hbase hS hR hlen ih
    go_enter Try.func118, Try.ntmps118
    go_wp2_with ((with_reducible refine gate_builtin (b := .append) (xs := #[.tmp 7, .tmp 9]) rfl ?_); at_builtin; refine Aside0.out ?_)
    refine Aside0.mk ?_
    refine Kd.S_append (Kd.slice 3 (Kd.int .i64)) (w0 := w0) base rfl (.tmp 7) (.tmp 9) 22 26 (.slice none 0 0) 24 rfl Try.underlying22 info26 rfl (by decide) (by omega) v xs l [.slice A l.length c] (fun _ => True) (fun k => some k = (Value.slice A l.length c).ownBlock) rfl (by first | (go_simp; done) | (go_simp; rfl)) ?aP ?aK ?aF ?aO ?aB ?aS ?aL ?_
    (case aP => exact Kd.M_row (Kd.R_mono (Kd.R_tight rfl HR.out) (fun _ h_ => h_)))
    (case aK => intro k hk; refine ⟨trivial, fun e => ?_⟩; obtain ⟨cs1, h1⟩ := Kd.R_typed HR.out k hk.symm; obtain ⟨cs2, h2⟩ := Kd.S_typed HS.out k e.symm; rw [h1] at h2; cases h2)
    (case aF => exact fun _ _ => trivial)
    (case aO => exact (Kd.S_mono HS.out (fun k hk => ⟨trivial, hk⟩)))
    (case aB => exact HB.out)
    (case aS => have := HBS.out; omega)
    (case aL => have := HL.out; simp [hidL] at this; omega)
    intro v1 w1 ho hb hg hat
    obtain ⟨A1, c1, rfl⟩ := Kd.S_slice ho
    have hne := Kd.S_ne HS.out HO.out (by decide)
    have hneP := Kd.S_ne HS.out HP.out (by decide)
    have HO1 := Aside0.mk (blk_grown HO.out hg hne)
    have HP1 := Aside0.mk (blk_grown HP.out hg hneP)
    have hcO1 : w1.cell? ⟨gO, 0, none⟩ = some v := (blk_cell HO1.out 0).trans rfl
    have hfO1 := blk_frozen HO1.out 0
    have HG := Aside0.mk hg
    have HT := Aside0.mk hat
    have HS1 := Aside0.mk ho
    have HB1 := Aside0.mk hb
    clear hb ho hg hat hcO hcP
    go_wp2
    have hgP : gP ≠ gO := blk_ne HP.out HO.out (by decide)
    have HO2 := Aside0.mk (blk_put HO1.out 0 (.slice A1 (xs ++ [l]).length c1) (cs' := #[.slice A1 (xs ++ [l]).length c1]) rfl)
    have HP2 := Aside0.mk (blk_far HP1.out (p := ⟨gO, 0, none⟩) hgP (.slice A1 (xs ++ [l]).length c1))
    have HS2 := Aside0.mk (Kd.S_set HS1.out HO1.out (by decide) 0 (.slice A1 (xs ++ [l]).length c1))
    have HK2 := Aside0.mk (Kept.setCell (p := ⟨gO, 0, none⟩) (Kept.of_grown HG.out (Kept.refl w (fun k => k = gO ∨ some k = v.ownBlock)) (fun k e => .inl (.inr e.symm))) (.inl (.inl rfl)) (.slice A1 (xs ++ [l]).length c1))
    have HB2 := Aside0.mk (Below.setCell HB1.out (p := ⟨gO, 0, none⟩) hbO (.slice A1 (xs ++ [l]).length c1))
    have HT2 : Aside0 (∀ k, (Value.slice A1 (xs ++ [l]).length c1).ownBlock = some k → v.ownBlock = some k ∨ w.heap.size ≤ k) := ⟨fun k e => by
      rcases HT.out with h | ⟨b, h, hb⟩
      · exact .inl (h ▸ e)
      · rw [h] at e; cases e; exact .inr hb⟩
    rw [show xs.length + 1 = (xs ++ [l]).length by simp]
    clear HO1 HP1 HS1 HB1 HG HT hcO1 hfO1 hl4
    generalize hn1 : (xs ++ [l]).length = n1 at HO2 HP2 HS2 HK2 HB2 HT2 ⊢
    go_loopg [6] 6 (fun gg v6 w' => ∃ (q : Int) (v' : Value) (xs' : List (List Int)), v6 = .int .i64 q ∧ Aside0 (1 ≤ q ∧ q ≤ 7 ∧ (7 - q).toNat ≤ gg) ∧ Aside0 (w'.heap[gO]? = some (.cells #[v'] 22 (0, 0))) ∧ Aside0 (w'.heap[gP]? = some (.cells #[.func (.func 118) #[] #[.pointer (some ⟨gO, 0, none⟩), .pointer (some ⟨gP, 0, none⟩)]] 115 (0, 0))) ∧ Aside0 (Kd.S (Kd.slice 3 (Kd.int .i64)) 26 w' base (fun _ => True) v' xs') ∧ Aside0 (Kept w w' (fun k => k = gO ∨ some k = v.ownBlock)) ∧ Aside0 (∀ k, v'.ownBlock = some k → v.ownBlock = some k ∨ w.heap.size ≤ k) ∧ Aside0 (Below base w0 w') ∧ Aside0 (xs' ++ hidR d l q = xs ++ hidL (d + 1) l p))
    case atStart => exact ⟨p, _, xs ++ [l], rfl, ⟨hp1, by omega, by omega⟩, HO2, HP2, HS2, HK2, HT2, HB2, ⟨by simp [hidL, hidR]⟩⟩
    case round =>
      clear HO2 HP2 HS2 HK2 HT2 HB2
      obtain ⟨q, v', xs', rfl, HQ, HO', HP', HS', HK', HT', HB', HX⟩ := hrel
      have ⟨hq1, hq7, hqg⟩ := HQ.out
      by_cases hq : q ≤ 6
      · have hq0 := decide_eq_true hq
        have hcO : wr.cell? ⟨gO, 0, none⟩ = some v' := (blk_cell HO'.out 0).trans rfl
        have hcP : wr.cell? ⟨gP, 0, none⟩ = some (.func (.func 118) #[] #[.pointer (some ⟨gO, 0, none⟩), .pointer (some ⟨gP, 0, none⟩)]) := (blk_cell HP'.out 0).trans rfl
        have HRw := Aside0.mk (Kd.R_reads' (Kd.R_kept (Kd.R_tight rfl HR.out) HK'.out (fun k hk h => by
          obtain ⟨cs1, h1⟩ := Kd.R_typed HR.out k hk.symm
          rcases h with rfl | h
          · rw [HO.out] at h1; cases h1
          · obtain ⟨cs2, h2⟩ := Kd.S_typed HS.out k h.symm; rw [h1] at h2; cases h2)))
        have hl4 : l.length ≤ 4 := by omega
        have HW := Aside0.mk (Below.refl wr.heap.size wr)
        go_wp2_with fail
        have hbw : base ≤ wr.heap.size := Nat.le_trans HBS.out HK'.out.1
        have hle4 : (l ++ [q]).length + d = 4 := by simp; omega
        have hX : (xs' ++ hidL d (l ++ [q]) q) ++ hidR d l (q + 1) = xs ++ hidL (d + 1) l p := by have e := HX.out; rw [hidR_step d l q hq] at e; rw [List.append_assoc]; exact e
        have hXl : (xs' ++ hidL d (l ++ [q]) q).length ≤ 1000000 := by have e := HL.out; rw [← hX, List.length_append] at e; omega
        have HX' := Aside0.mk hX
        have HXl := Aside0.mk hXl
        have HLE := Aside0.mk hle4
        have HBW := Aside0.mk hbw
        clear hX hXl hle4 hbw HX
        go_region_held_law (fun w' => w'.cell? ⟨gP, 0, none⟩ = some (.func (.func 118) #[] #[.pointer (some ⟨gO, 0, none⟩), .pointer (some ⟨gP, 0, none⟩)]))
          (first | exact pw_cell_below HB3.out hcP | exact pw_cell_below HB4.out hcP | exact (blk_cell HP5.out 0).trans rfl | go_keep)
          (first
            | (go_at_call 114; refine (slices_Clone_int_int.calls A c l l _ (by first | exact Kd.C_drew HRw.out.2.2 | exact Kd.C_alloc (Kd.C_drew HRw.out.2.2) _) HRw.out.2.1 (by unfold slices_Clone_int_int.f; rw [if_pos (by omega)])).mono ?_; rintro e w3 ⟨v3, rfl, ho3, hb3⟩; have HB3 : Aside0 (Below wr.heap.size wr w3) := ⟨by first | exact below_step (below_drew (Below.refl _ _)) hb3 | exact below_step (below_alloc (below_drew (Below.refl _ _)) _) hb3⟩; have HO3 : Aside0 (Kd.R (Kd.int .i64) 3 w3 wr.heap.size (fun _ => True) v3 l) := ⟨Kd.R_lower ho3 (by simp)⟩; (try have HQ3 := Aside0.mk (pw_cell_below hb3 (show ((wr.drew).alloc (.cells #[.int .i64 q] 3)).cell? ⟨wr.heap.size, 0, none⟩ = some (.int .i64 q) from (blk_cell (blk_new wr.drew _) 0).trans rfl))); clear ho3 hb3)
            | (refine step_E (by rfl) (Kd.R_append_rows_step (Kd.int .i64) (w0 := wr) wr.heap.size (by rfl) (.tmp 21) (.tmp 23) 26 3 (.int .i64 0) 8 rfl Try.underlying26 info3 rfl (by decide) (by omega) v3 l [q] _ _ _ (fun _ => True) (fun _ => False) rfl rfl ?aO ?aR (fun _ _ h => h) (fun _ h => h.elim) (fun _ _ => trivial) ?aB ?aS ?aL ?_); (case aO => first | exact HO3.out | exact Kd.R_alloc HO3.out _); (case aR => first | exact C_one HQ3.out | exact C_one ((blk_cell (blk_new w3 _) 0).trans rfl)); (case aB => first | exact HB3.out | exact below_alloc HB3.out _); (case aS => have := HB3.out.size; first | omega | (simp; omega)); (case aL => omega); intro v4 w4 ho4 hb4 hg4 hat4; obtain ⟨A4, c4, rfl⟩ := Kd.R_slice ho4; have HO4 := Aside0.mk ho4; have HB4 := Aside0.mk hb4; clear ho4 hb4 hg4 hat4; have ih4 := IH.out A4 c4 (l ++ [q]) q v' xs' w4 HLE.out (by omega) (by omega) HXl.out (blk_below HO'.out HB4.out) (blk_below HP'.out HB4.out) (below_then HB'.out HBW.out HB4.out) (Nat.le_trans HBW.out HB4.out.size) (Kd.S_mono (Kd.S_elder' HS'.out (Kd.R_base HO4.out) HB4.out) (fun k hk => hk.2)) (Kd.R_lower HO4.out HBW.out); rw [show (l ++ [q]).length = l.length + 1 from by simp] at ih4; have IHQ := Aside0.mk ih4; clear ih4)
            | (go_at_call 118; refine IHQ.out.mono ?_; rintro e w5 ⟨rfl, v5, hO5, hP5, hS5, hK5, hT5, hB5⟩; have HO5 := Aside0.mk hO5; have HP5 := Aside0.mk hP5; have HS5 := Aside0.mk hS5; have HK5 := Aside0.mk hK5; have HT5 := Aside0.mk hT5; have HB5 := Aside0.mk hB5; clear hO5 hP5 hS5 hK5 hT5 hB5))
        all_goals (clear hcO hcP; go_wp2)
        all_goals
          go_roundg (gk - 1)
          case measure => have := HQ.out; omega
          case rel =>
            refine ⟨q + 1, v5, _, (by first | rfl | rw [show wrap64 (q + 1) = q + 1 by unfold wrap64; omega]), ⟨by omega, by omega, by omega⟩, HO5, HP5, HS5, ⟨?_⟩, ⟨?_⟩, HB5, HX'⟩
            · exact (HK'.out.below HB4.out).then_ HK5.out (fun k hk => by
                rcases hk with hk | hk
                · exact .inl (.inl hk)
                · rcases HT'.out k hk.symm with h | h
                  · exact .inl (.inr h.symm)
                  · exact .inr h)
            · intro k hk
              rcases HT5.out k hk with h | h
              · exact HT'.out k h
              · exact .inr (Nat.le_trans (Nat.le_trans HK'.out.1 HB4.out.size) h)
      · have hq0 := decide_eq_false hq
        go_wp2
        refine bodyPost_end (results_none rfl _ _ _) rfl ⟨rfl, v', HO'.out, HP'.out, ?_, HK'.out, HT'.out, HB'.out⟩
        have e := HX.out
        rw [hidR_end _ _ _ (by omega), List.append_nil] at e
        rw [← e]; exact HS'.out


/-! ### impl_hidden: function 99 -/
-- GIVEN loop.example/g01305/impl.hidden raw=1
-- NEEDS loop.example/g01305/impl.hidden$1
set_option maxHeartbeats 2000000 in
set_option maxRecDepth 100000 in
theorem hidden_calls (w : World) : Calls Try.prog 99 #[] w fun e w' => ∃ v, e = .returned v ∧ Kd.S (Kd.slice 3 (Kd.int .i64)) 26 w' w.heap.size (fun _ => True) v (hidL 4 [] 1) ∧ Below w.heap.size w w' := by
  have HB := Aside0.mk (Below.refl w.heap.size w)
  have hmf : ∀ (fn : Fn) (first cap : Array Value) (w : World), (Instr.makeFunc fn first cap).run Try.prog w = .ok (.func fn first cap) w := fun _ _ _ _ => rfl
  have hsf : ∀ (a : Addr) (fn : Fn) (x y : Array Value) (m : Mode) (w : World), (store a (.func fn x y) m).run Try.prog w = stored Try.prog w a (.func fn x y) m := fun a fn x y m w => run_store Try.prog w a _ m rfl
  go_enter Try.func99, Try.ntmps99
  go_wp2_with (first
    | ((with_reducible refine gate_dst (N := 3) rfl ?_); refine Kd.S_lit (Kd.slice 3 (Kd.int .i64)) (w0 := w) w.heap.size 26 ?hg (N := 3) ?hd (xs := []) (inner := []) (ok := fun _ => True) (okp := fun _ => True) ?hr ?hp (fun _ hk => hk) trivial (Below.refl _ _) (Nat.le_refl _) (by simp) ?_; (case hd => rfl); (case hg => rfl); (case hr => first | (go_simp; done) | (go_simp; rfl)); (case hp => exact (Reps.none _ _)); intro v1 w1 ho1 hb1 hg_ hnew_; obtain ⟨A1, c1, rfl⟩ := Kd.S_slice ho1; clear hg_ hnew_; have HO1 := Aside0.mk ho1; have HB1 := Aside0.mk hb1; clear ho1 hb1)
    | ((with_reducible refine gate_dst (N := 6) rfl ?_); refine Kd.R_lit (Kd.int .i64) _ 3 ?hg (N := 6) ?hd (xs := []) (inner := []) (ok := fun _ => True) (okp := fun _ => True) ?hr ?hp (fun _ hk => hk) trivial (Below.refl _ _) (Nat.le_refl _) (by simp) ?_; (case hd => rfl); (case hg => rfl); (case hr => first | (go_simp; done) | (go_simp; rfl)); (case hp => exact (Reps.none _ _)); intro v6 w6 ho6 hb6 hg_ hnew_; obtain ⟨A6, c6, rfl⟩ := Kd.R_slice ho6; clear hg_ hnew_; refine Aside0.out ?_))
  refine Aside0.mk ?_
  have hO4 : ((w1.alloc (.cells #[.slice A1 0 c1] 22)).alloc (.cells #[.func (.func 118) #[] #[.pointer (some ⟨w1.heap.size, 0, none⟩), .pointer (some ⟨w1.heap.size + 1, 0, none⟩)]] 115)).heap[w1.heap.size]? = some (.cells #[.slice A1 0 c1] 22 (0, 0)) := blk_alloc (blk_new w1 _) _
  have hP4 : ((w1.alloc (.cells #[.slice A1 0 c1] 22)).alloc (.cells #[.func (.func 118) #[] #[.pointer (some ⟨w1.heap.size, 0, none⟩), .pointer (some ⟨w1.heap.size + 1, 0, none⟩)]] 115)).heap[w1.heap.size + 1]? = some (.cells #[.func (.func 118) #[] #[.pointer (some ⟨w1.heap.size, 0, none⟩), .pointer (some ⟨w1.heap.size + 1, 0, none⟩)]] 115 (0, 0)) := by
    have := blk_new (w1.alloc (.cells #[.slice A1 0 c1] 22)) (.cells #[.func (.func 118) #[] #[.pointer (some ⟨w1.heap.size, 0, none⟩), .pointer (some ⟨w1.heap.size + 1, 0, none⟩)]] 115)
    simpa using this
  have hS4 := Kd.S_alloc (Kd.S_alloc HO1.out (.cells #[.slice A1 0 c1] 22)) (.cells #[.func (.func 118) #[] #[.pointer (some ⟨w1.heap.size, 0, none⟩), .pointer (some ⟨w1.heap.size + 1, 0, none⟩)]] 115)
  have hB4 := below_alloc (below_alloc HB1.out (.cells #[.slice A1 0 c1] 22)) (.cells #[.func (.func 118) #[] #[.pointer (some ⟨w1.heap.size, 0, none⟩), .pointer (some ⟨w1.heap.size + 1, 0, none⟩)]] 115)
  generalize (w1.alloc (.cells #[.slice A1 0 c1] 22)).alloc (.cells #[.func (.func 118) #[] #[.pointer (some ⟨w1.heap.size, 0, none⟩), .pointer (some ⟨w1.heap.size + 1, 0, none⟩)]] 115) = w4 at *
  have hC := hidden_1 w1.heap.size (w1.heap.size + 1) w.heap.size w HB1.out.size 4 A6 c6 [] 1 (.slice A1 0 c1) [] w6 rfl (by omega) (by omega) (Nat.le_of_ble_eq_true (by kernel_rfl)) (blk_below hO4 hb6) (blk_below hP4 hb6) (below_step hB4 hb6) (Nat.le_trans hB4.size hb6.size) (Kd.S_mono (Kd.S_elder' hS4 (Kd.R_base ho6) hb6) (fun k hk => hk.2)) (Kd.R_lower ho6 hB4.size)
  have HC := Aside0.mk hC
  clear hO4 hP4 hS4 hB4 ho6 hb6 hC
  go_wp2_with (go_at_call 118; refine HC.out.mono ?_; rintro e w7 ⟨rfl, v7, hO7, hP7, hS7, hK7, hT7, hB7⟩; have hcO7 : w7.cell? ⟨w1.heap.size, 0, none⟩ = some v7 := (blk_cell hO7 0).trans rfl)
  go_ret
  exact ⟨_, rfl, hS7, hB7⟩


/-! ### impl_total: function 106 -/
def impl_total.l0 : Nat → Int → List Int → Int → Int → Option (Int)
  | 0, _, _, _, _ => none
  | k + 1, x3, x6, x7, x8 => if x8 < x7 then (if 0 ≤ x8 then (if x8 < (x6.length : Int) then (impl_total.l0 k (wrap64 (x3 + (rd x6 x8))) x6 x7 (wrap64 (x8 + 1))) else (none)) else (none)) else (some x3)
def impl_total.f (k : Nat) (l0 : List Int) : Option (Int) := impl_total.l0 k 0 l0 (l0.length : Int) 0
theorem impl_total.mono_l : ∀ k, (∀ y0 y1 y2 y3, LeO (impl_total.l0 k y0 y1 y2 y3) (impl_total.l0 (k + 1) y0 y1 y2 y3))
  | 0 => fun _ _ _ _ r h => by simp [impl_total.l0] at h
  | k + 1 => by
    have ih0 := impl_total.mono_l k
    · intro y0 y1 y2 y3
      unfold impl_total.l0
      repeat' first
      | (with_reducible exact ih0 _ _ _ _)
      | (with_reducible exact LeO.refl _)
      | (with_reducible exact LeO.none _)
      | (with_reducible refine LeO.ite ?_ ?_)
      | (with_reducible refine LeO.bind ?_ (fun _ => ?_))
      | exact ih0 _ _ _ _
      | exact LeO.none _
      | refine LeO.ite ?_ ?_
      | refine LeO.bind ?_ (fun _ => ?_)
theorem impl_total.mono : ∀ a0 k, LeO (impl_total.f k a0) (impl_total.f (k + 1) a0) := by
  intro a0 k
  have ih0 := impl_total.mono_l k
  unfold impl_total.f
  repeat' first
      | (with_reducible exact ih0 _ _ _ _)
      | (with_reducible exact LeO.refl _)
      | (with_reducible exact LeO.none _)
      | (with_reducible refine LeO.ite ?_ ?_)
      | (with_reducible refine LeO.bind ?_ (fun _ => ?_))
      | exact ih0 _ _ _ _
      | exact LeO.none _
      | refine LeO.ite ?_ ?_
      | refine LeO.bind ?_ (fun _ => ?_)
set_option maxHeartbeats 8000000 in
set_option maxRecDepth 100000 in
theorem impl_total.calls (k : Nat) (A0 : Option Addr) (c0 : Nat) (l0 : List Int) (r : Int) (w : World) (hr0 : Kd.C (Kd.int .i64) w A0 l0.length l0) (hc0 : l0.length ≤ c0) (h : impl_total.f k l0 = some r) :
    Calls Try.prog 106 #[.slice A0 l0.length c0] w fun e w' => e = .returned (.int .i64 r) ∧ Drawn0 w w' := by
  have HR0 := Aside0.mk hr0
  have HC0 := Aside0.mk hc0
  clear hr0 hc0
  have H : (impl_total.l0 k 0 l0 (l0.length : Int) 0) = some r := h
  clear h
  have H' := Aside0.mk H
  clear H
  go_enter Try.func106, Try.ntmps106
  go_wp2
  go_loopg [3, 8] k (fun kq v3 v8 w' => ∃ (x3_1 : Int) (x8_1 : Int), v3 = .int .i64 x3_1 ∧ v8 = .int .i64 x8_1 ∧ Aside0 (impl_total.l0 kq x3_1 l0 (l0.length : Int) x8_1 = some r) ∧ Aside0 (kq ≤ k) ∧ Drawn0 w w')
  case atStart => exact ⟨(0), (0), (by first | rfl | (simp; done) | (simp [*]; done)), (by first | rfl | (simp; done) | (simp [*]; done)), H', ⟨Nat.le_refl _⟩, by repeat (first | exact Drawn0.refl _ | apply Drawn0.step)⟩
  case round =>
    clear H'
    try clear c1
    obtain ⟨x3_1, x8_1, rfl, rfl, HA, HK1, ⟨m1, rfl⟩⟩ := hrel
    cases gk with
    | zero => exact absurd HA.out (by simp [impl_total.l0])
    | succ k1 =>
      have H := HA.out
      clear HA
      simp only [impl_total.l0] at H
      by_cases c2 : x8_1 < (l0.length : Int)
      · rw [if_pos c2] at H
        have c2b0 : decide (x8_1 < (l0.length : Int)) = true := decide_eq_true c2
        clear c2
        by_cases c3 : 0 ≤ x8_1
        · rw [if_pos c3] at H
          have c3b0 : decide (0 ≤ x8_1) = true := decide_eq_true c3
          clear c3
          by_cases c4 : x8_1 < (l0.length : Int)
          · rw [if_pos c4] at H
            have c4b0 : decide (x8_1 < (l0.length : Int)) = true := decide_eq_true c4
            clear c4
            have H' := Aside0.mk H
            clear H
            have p224 : 0 ≤ (x8_1 : Int) := of_decide_eq_true (by first | (with_reducible assumption) | assumption)
            have q224 : x8_1 < (l0.length : Int) := of_decide_eq_true (by first | (with_reducible assumption) | assumption)
            obtain ⟨ad224, e224, hx224_0⟩ := Kd.at_int HR0.out x8_1 p224 q224
            cases e224
            replace p224 := eq_true p224
            replace q224 := eq_true q224
            go_wp2
            go_roundg k1
            case measure => have := HK1.out; omega
            case rel => exact ⟨(wrap64 (x3_1 + (rd l0 x8_1))), (wrap64 (x8_1 + 1)), (by first | rfl | (simp; done) | (simp [*]; done)), (by first | rfl | (simp; done) | (simp [*]; done)), H', ⟨by have := HK1.out; omega⟩, by repeat (first | exact Drawn0.refl _ | apply Drawn0.step)⟩
          · rw [if_neg c4] at H
            exact absurd H (by simp)
        · rw [if_neg c3] at H
          exact absurd H (by simp)
      · rw [if_neg c2] at H
        have c2b0 : decide (x8_1 < (l0.length : Int)) = false := decide_eq_false c2
        clear c2
        obtain rfl := Option.some.inj H
        go_wp2
        go_ret
        exact ⟨by first | rfl | (simp; done) | (simp [*]; done), by repeat (first | exact Drawn0.refl _ | apply Drawn0.step)⟩

end Go.Proofs.Ytmpmiomjfhcmdaa.PFnExactNeedlessClues
