-- printed by wip/xp
import Derived.Test.YtgeoihhibglhgaaPFnPiecesHiddenx0
import Derived.Test.YtgeoihhibglhgaaPFnPiecesHiddenx5
import Derived.Test.YtgeoihhibglhgaaPFnPiecesHiddenx9
set_option maxHeartbeats 8000000
set_option maxRecDepth 100000
namespace Go.Proofs.Ytgeoihhibglhgaa.PFnPiecesHidden
open Go.RowKit Go.Proofs.YtgeoihhibglhgaaW.PrintWords Go.Proofs.YtgeoihhibglhgaaW.PrintLast Go.Proofs.YtgeoihhibglhgaaW.PrintMore Go.Proofs.Ytgeoihhibglhgaa.Xmv
attribute [local go_sem] max2_int min2_int max_two min_two max_three min_three max_four min_four
set_option linter.unusedVariables false
set_option linter.unusedSimpArgs false

/-! ### slices_IndexFunc_int_int_312: function 312 -/
-- GIVEN slices.IndexFunc[[][]int,[]int] raw=1
-- USES hidden
/-- The first hit of p, or none. -/
def Hit (p : List Int → Bool) (l : List (List Int)) (i : Int) : Prop := (i = -1 ∧ ∀ j, j < l.length → p (l.getD j []) = false) ∨ ∃ k : Nat, i = k ∧ k < l.length ∧ p (l.getD k []) = true ∧ ∀ j, j < k → p (l.getD j []) = false
theorem getD_mem {α : Type} (l : List α) (j : Nat) (d : α) (h : j < l.length) : l.getD j d ∈ l := by
  rw [List.getD_eq_getElem?_getD, List.getElem?_eq_getElem h]; exact List.getElem_mem h
/-- What a function value is asked for: of each row of l, in each world of Q, it tells p. -/
def PredR (g : Nat) (lb : Array Value) (p : List Int → Bool) (l0 : List (List Int)) (Q : World → Prop) : Prop :=
  ∀ (W : World) (A : Option Addr) (c : Nat) (l : List Int), l ∈ l0 → Q W → Kd.C (Kd.int .i64) W A l.length l → l.length ≤ c → Calls Try.prog g (#[.slice A l.length c] ++ lb) W fun e w' => e = .returned (.bool (p l)) ∧ Below W.heap.size W w'
theorem at_row {w : World} {A : Option Addr} {l : List (List Int)} (h : Kd.C (Kd.slice 3 (Kd.int .i64)) w A l.length l) (i : Int) (h0 : 0 ≤ i) (h1 : i < l.length) :
    ∃ ad A' c', A = some ad ∧ w.cell? (ad.add i.toNat) = some (.slice A' (l.getD i.toNat []).length c') ∧ (l.getD i.toNat []).length ≤ c' ∧ Kd.C (Kd.int .i64) w A' (l.getD i.toNat []).length (l.getD i.toNat []) := by
  obtain ⟨ad, c, e, hl, ⟨A', c', rfl, hc, hC⟩, hcell⟩ := ReadsRow.get_ h [] i h0 h1
  have := hcell 0 _ rfl
  rw [show i.toNat * (Kd.slice 3 (Kd.int .i64)).sz + 0 = i.toNat from by show i.toNat * 1 + 0 = _; omega] at this
  exact ⟨ad, A', c', e, this, hc, hC⟩

set_option maxHeartbeats 2000000 in
theorem indexFunc_rows (p : List Int → Bool) (g : Nat) (lb : Array Value) (eg : ∀ args w, (callFunc g args).run Try.prog w = .ok (.enter g args) w) (A0 : Option Addr) (c0 : Nat) (l0 : List (List Int)) (w : World) (hr0 : Kd.C (Kd.slice 3 (Kd.int .i64)) w A0 l0.length l0) (hc0 : l0.length ≤ c0)
    (hp : PredR g lb p l0 (fun W => Below w.heap.size w W)) :
    Calls Try.prog 312 #[.slice A0 l0.length c0, .func (.func g) #[] lb] w fun e w' => (∃ i, e = .returned (.int .i64 i) ∧ Hit p l0 i) ∧ Below w.heap.size w w' := by
  have HR0 := jA hr0
  have HP := jA hp
  have hbig : l0.length ≤ 9223372036854775807 := hr0.2.1
  clear hr0 hc0 hp
  go_enter Try.func312, Try.ntmps312
  go_wp2
  go_loopg [5, 8] l0.length (fun gg _ s8 wr => ∃ kk : Int, s8 = .int .i64 kk ∧ Aside0 (0 ≤ kk ∧ kk ≤ l0.length ∧ l0.length - kk ≤ gg) ∧ Aside0 (Below w.heap.size w wr) ∧ Aside0 (∀ j, j < kk.toNat → p (l0.getD j []) = false))
  case atStart => exact ⟨0, by simp, ⟨by omega⟩, ⟨jU _ w⟩, ⟨fun j hj => by simp at hj⟩⟩
  case round =>
    obtain ⟨kk, rfl, HK, HB, HA⟩ := hrel
    have ⟨hk0, hk1, hk2⟩ := HK.out
    by_cases hlt : kk < (l0.length : Int)
    · obtain ⟨ad, A', c', e1, hx, hlc, hC⟩ := at_row (jY HR0.out HB.out) kk hk0 hlt
      have hcall := HP.out wr A' c' _ (getD_mem l0 kk.toNat [] (by omega)) HB.out hC hlc
      cases e1
      have hlt0 := jK hlt
      have hlt1 := eq_true hlt
      have hk01 := eq_true hk0
      cases hq : p (l0.getD kk.toNat []) with
      | true =>
        rw [hq] at hcall
        have HQ := jA hq
        clear hq hk2 hk1
        generalize l0.getD kk.toNat [] = row at hx hcall hC hlc
        go_wp2_with (go_at_fn g; refine hcall.mono ?_; rintro e w' ⟨rfl, hb'⟩)
        go_ret
        exact ⟨⟨kk, rfl, .inr ⟨kk.toNat, by omega, by omega, HQ.out, HA.out⟩⟩, jB HB.out hb'⟩
      | false =>
        rw [hq] at hcall
        have HQ := jA hq
        clear hq hk2 hk1
        generalize l0.getD kk.toNat [] = row at hx hcall hC hlc
        go_wp2_with (go_at_fn g; refine hcall.mono ?_; rintro e w' ⟨rfl, hb'⟩)
        go_roundg (gk - 1)
        case measure => have := HK.out; omega
        case rel =>
          have hK := HK.out
          refine ⟨kk + 1, (by first | rfl | rw [show wrap64 (kk + 1) = kk + 1 by unfold wrap64; omega]), ⟨by omega⟩, ⟨jB HB.out hb'⟩, ⟨fun j hj => ?_⟩⟩
          by_cases e : j = kk.toNat
          · rw [e]; exact HQ.out
          · exact HA.out j (by omega)
    · have hlt0 := jV hlt
      have hlt1 := eq_false hlt
      clear hk2
      go_wp2
      go_ret
      exact ⟨⟨-1, rfl, .inl ⟨rfl, fun j hj => HA.out j (by omega)⟩⟩, HB.out⟩


/-! ### slices_DeleteFunc_int_int: function 290 -/
-- GIVEN slices.DeleteFunc[[][]int,[]int] raw=1
/-- The indices of the first n rows that are kept. -/
def keptI (p : List Int → Bool) (xs : List (List Int)) (n : Nat) : List Nat := (List.range n).filter fun t => !p (xs.getD t [])
theorem keptI_succ (p : List Int → Bool) (xs : List (List Int)) (n : Nat) : keptI p xs (n + 1) = keptI p xs n ++ (if p (xs.getD n []) = true then [] else [n]) := by
  unfold keptI
  rw [List.range_succ, List.filter_append]
  cases h : p (xs.getD n []) <;> simp only [List.filter_cons, List.filter_nil, h] <;> rfl
theorem keptI_nodup (p : List Int → Bool) (xs : List (List Int)) (n : Nat) : (keptI p xs n).Nodup := List.Pairwise.filter _ List.nodup_range
theorem keptI_all (p : List Int → Bool) (xs : List (List Int)) (n : Nat) (h : ∀ j, j < n → p (xs.getD j []) = false) : keptI p xs n = List.range n := by
  unfold keptI
  rw [List.filter_eq_self]
  intro a ha
  rw [h a (List.mem_range.1 ha)]; rfl
theorem getD_range (xs : List (List Int)) : (List.range xs.length).map (fun t => xs.getD t []) = xs := by
  apply List.ext_getElem?
  intro i
  by_cases hi : i < xs.length
  · rw [List.getElem?_map, List.getElem?_range hi, Option.map_some, List.getD_eq_getElem?_getD, List.getElem?_eq_getElem hi, Option.getD_some]
  · rw [List.getElem?_eq_none (by simp; omega), List.getElem?_eq_none (by omega)]
theorem keptI_map (p : List Int → Bool) (xs : List (List Int)) : (keptI p xs xs.length).map (fun t => xs.getD t []) = xs.filter fun x => !p x := by
  have := List.filter_map (p := fun x => !p x) (f := fun t => xs.getD t []) (l := List.range xs.length)
  rw [getD_range] at this
  rw [this]; rfl
theorem keptI_lt (p : List Int → Bool) (xs : List (List Int)) (n t j : Nat) (h : (keptI p xs n)[t]? = some j) : j < n := by
  have := List.mem_of_getElem? h
  unfold keptI at this
  exact List.mem_range.1 (List.mem_filter.1 this).1
/-- How far the keeping has come. -/
structure KeepI (p : List Int → Bool) (xs : List (List Int)) (inner : List Value) (n cap i j : Nat) (cur : Array Value) : Prop where
  lt : i < j
  jn : j ≤ n
  size : cur.size = cap
  len : i = (keptI p xs j).length
  low : ∀ (t k : Nat), (keptI p xs j)[t]? = some k → cur[t]? = inner[k]?
  high : ∀ (t : Nat), j ≤ t → t < n → cur[t]? = inner[t]?
theorem KeepI.skip {p : List Int → Bool} {xs : List (List Int)} {inner : List Value} {n cap i j : Nat} {cur : Array Value} (h : KeepI p xs inner n cap i j cur) (hj : j < n) (hp : p (xs.getD j []) = true) : KeepI p xs inner n cap i (j + 1) cur := by
  have e : keptI p xs (j + 1) = keptI p xs j := by rw [keptI_succ, if_pos hp, List.append_nil]
  exact ⟨Nat.lt_succ_of_lt h.lt, hj, h.size, by rw [e]; exact h.len, by rw [e]; exact h.low, fun t ht hn => h.high t (by omega) hn⟩
theorem KeepI.keep {p : List Int → Bool} {xs : List (List Int)} {inner : List Value} {n cap i j : Nat} {cur : Array Value} (h : KeepI p xs inner n cap i j cur) (hj : j < n) (hnc : n ≤ cap) (hp : p (xs.getD j []) = false) {u : Value} (hu : inner[j]? = some u) : KeepI p xs inner n cap (i + 1) (j + 1) (cur.setIfInBounds i u) := by
  have e : keptI p xs (j + 1) = keptI p xs j ++ [j] := by rw [keptI_succ, if_neg (by rw [hp]; decide)]
  have hij := h.lt
  refine ⟨by omega, hj, by rw [Array.size_setIfInBounds]; exact h.size, by rw [e, List.length_append, ← h.len]; rfl, ?_, ?_⟩
  · intro t k ht
    rw [e] at ht
    by_cases c : t < i
    · rw [List.getElem?_append_left (by rw [← h.len]; exact c)] at ht
      rw [Array.getElem?_setIfInBounds_ne (by omega)]
      exact h.low t k ht
    · by_cases c2 : t = i
      · subst c2
        rw [List.getElem?_append_right (by rw [← h.len]; exact jX _), ← h.len, Nat.sub_self] at ht
        obtain rfl := jM ht
        rw [hu]
        have : t < cur.size := by rw [h.size]; omega
        simp [this]
      · rw [List.getElem?_eq_none (by rw [List.length_append, ← h.len]; simp; omega)] at ht
        cases ht
  · intro t ht hn
    rw [Array.getElem?_setIfInBounds_ne (by omega)]
    exact h.high t (by omega) hn

set_option maxHeartbeats 4000000 in
set_option maxRecDepth 100000 in
theorem deleteFunc_hit (p : List Int → Bool) (g : Nat) (lb : Array Value) (eg : ∀ args w, (callFunc g args).run Try.prog w = .ok (.enter g args) w) (base gb cap k0 : Nat) (xs : List (List Int)) (inner : List Value) (cur0 : Array Value) (w0 w : World)
    (hbg : base ≤ gb) (hn : xs.length ≤ 1000000) (hnc : xs.length ≤ cap) (hcm : cap ≤ 9223372036854775807)
    (hgb : w.heap[gb]? = some (.cells cur0 24 (0, 0))) (hsz : cur0.size = cap) (hin : ∀ t, t < xs.length → cur0[t]? = inner[t]?)
    (hrow : ∀ W, Kept w W (fun k => k = gb) → ∀ j, j < xs.length → ∃ A c, inner[j]? = some (.slice A (xs.getD j []).length c) ∧ (xs.getD j []).length ≤ c ∧ Kd.C (Kd.int .i64) W A (xs.getD j []).length (xs.getD j []))
    (hB : Below base w0 w) (hp : PredR g lb p xs (fun W => Below base w0 W))
    (hk0 : k0 < xs.length) (hpk : p (xs.getD k0 []) = true) (hlow : ∀ j, j < k0 → p (xs.getD j []) = false)
    (hIF : Calls Try.prog 312 #[.slice (some ⟨gb, 0, none⟩) xs.length cap, .func (.func g) #[] lb] w fun e w' => e = .returned (.int .i64 k0) ∧ Below w.heap.size w w') :
    Calls Try.prog 290 #[.slice (some ⟨gb, 0, none⟩) xs.length cap, .func (.func g) #[] lb] w fun e w' => e = .returned (.slice (some ⟨gb, 0, none⟩) (keptI p xs xs.length).length cap) ∧ ∃ cur, w'.heap[gb]? = some (.cells cur 24 (0, 0)) ∧ cur.size = cap ∧ (∀ (t k : Nat), (keptI p xs xs.length)[t]? = some k → cur[t]? = inner[k]?) ∧ Kept w w' (fun k => k = gb) ∧ Below base w0 w' := by
  have HGB := jA hgb
  have HIN := jA hin
  have HROW := jA hrow
  have HB := jA hB
  have HP := jA hp
  have HLOW := jA hlow
  have HPK := jA hpk
  have HIF := jA hIF
  have hne1 : ((k0 : Int) == -1) = false := beq_eq_false_iff_ne.2 (by omega)
  clear hgb hin hrow hB hp hlow hpk hIF
  go_enter Try.func290, Try.ntmps290
  go_wp2_with (go_at_call 312; refine HIF.out.mono ?_; rintro e w1 ⟨rfl, hb1⟩)
  go_loopg [5, 6, 7] xs.length (fun gg s5 s6 _ wr => ∃ (i j : Nat) (cur : Array Value), s5 = .int .i64 i ∧ s6 = .int .i64 j ∧ Aside0 (xs.length - j ≤ gg) ∧ Aside0 (wr.heap[gb]? = some (.cells cur 24 (0, 0))) ∧ Aside0 (KeepI p xs inner xs.length cap i j cur) ∧ Aside0 (Kept w wr (fun k => k = gb)) ∧ Aside0 (Below base w0 wr))
  case atStart =>
    have hbw : base ≤ w.heap.size := Nat.le_trans hbg (Nat.le_of_lt (blk_lt HGB.out))
    refine ⟨k0, k0 + 1, cur0, rfl, (by first | rfl | go_num), ⟨by omega⟩, ⟨jN HGB.out hb1⟩, ⟨⟨by omega, by omega, hsz, ?_, ?_, fun t h1 h2 => HIN.out t h2⟩⟩, ⟨Kept.of_below hb1 _⟩, ⟨below_then HB.out hbw hb1⟩⟩
    · rw [keptI_succ, if_pos HPK.out, List.append_nil, keptI_all p xs k0 HLOW.out, List.length_range]
    · intro t k ht
      have := keptI_lt p xs _ t k ht
      rw [keptI_succ, if_pos HPK.out, List.append_nil, keptI_all p xs k0 HLOW.out] at ht
      have h2 : t < k0 := by
        have := (List.getElem?_eq_some_iff.1 ht).1
        rwa [List.length_range] at this
      rw [List.getElem?_range h2] at ht
      obtain rfl := jM ht
      exact HIN.out t (by omega)
  case round =>
    obtain ⟨i, j, cur, rfl, rfl, HM, HG, HI, HK, HB'⟩ := hrel
    have hij := HI.out.lt
    have hjn := HI.out.jn
    by_cases hlt : j < xs.length
    · obtain ⟨A, c, hj1, hlc, hC⟩ := HROW.out wr HK.out j hlt
      have hcall := HP.out wr A c _ (getD_mem xs j [] hlt) HB'.out hC hlc
      have hcj : wr.cell? ⟨gb, j, none⟩ = some (.slice A (xs.getD j []).length c) := (jE HG.out j).trans ((HI.out.high j (jX _) hlt).trans hj1)
      obtain ⟨old, hold⟩ : ∃ old, cur[i]? = some old := ⟨cur[i]'(by rw [HI.out.size]; omega), Array.getElem?_eq_getElem _⟩
      have HJ := jA hj1
      have HOLD := jA hold
      have hltz : (j : Int) < (xs.length : Int) := by omega
      have hiz : (i : Int) < (xs.length : Int) := by omega
      cases hq : p (xs.getD j []) with
      | false =>
        rw [hq] at hcall
        have HQ := jA hq
        clear hq hj1 hold hC hlc
        generalize hrow : xs.getD j [] = row at hcj hcall
        have HRJ := jA hrow
        clear hrow
        go_wp2_with (go_at_fn g; refine hcall.mono ?_; rintro e w' ⟨rfl, hb'⟩; have hC2 := jA (jN HG.out hb'); have hci2 : w'.cell? ⟨gb, i, none⟩ = some old := (jE hC2.out i).trans HOLD.out; have hfi2 := jF hC2.out i)
        go_roundg (gk - 1)
        case measure => have := HM.out; omega
        case rel =>
          have hm := HM.out
          refine ⟨i + 1, j + 1, cur.setIfInBounds i (.slice A row.length c), (by first | rfl | go_num), (by first | rfl | go_num), ⟨by omega⟩, ⟨blk_set hC2.out i _⟩, ⟨HI.out.keep hlt hnc HQ.out (by rw [← HRJ.out]; exact HJ.out)⟩, ⟨(HK.out.below hb').setCell (p := ⟨gb, i, none⟩) (.inl rfl) _⟩, ⟨?_⟩⟩
          exact Below.setCell (below_then HB'.out (Nat.le_trans hbg (Nat.le_of_lt (blk_lt HG.out))) hb') (p := ⟨gb, i, none⟩) hbg _
      | true =>
        rw [hq] at hcall
        have HQ := jA hq
        clear hq hj1 hold hC hlc
        generalize hrow : xs.getD j [] = row at hcj hcall
        have HRJ := jA hrow
        clear hrow
        go_wp2_with (go_at_fn g; refine hcall.mono ?_; rintro e w' ⟨rfl, hb'⟩)
        go_roundg (gk - 1)
        case measure => have := HM.out; omega
        case rel =>
          have hm := HM.out
          exact ⟨i, j + 1, cur, rfl, (by first | rfl | go_num), ⟨by omega⟩, ⟨jN HG.out hb'⟩, ⟨HI.out.skip hlt HQ.out⟩, ⟨HK.out.below hb'⟩, ⟨below_then HB'.out (Nat.le_trans hbg (Nat.le_of_lt (blk_lt HG.out))) hb'⟩⟩
    · obtain rfl : j = xs.length := by omega
      have hltz : ¬ (xs.length : Int) < (xs.length : Int) := by omega
      have hiz : (i : Int) < (xs.length : Int) := by omega
      have hcl : ∀ ty, (Builtin.clear_ #[63] ty #[.slice (some ⟨gb, i, none⟩) (xs.length - i) (cap - i)]).run Try.prog wr = .ok (.tuple #[]) (wr.setCells gb i (List.replicate (xs.length - i) (.slice none 0 0))) :=
        fun ty => Lib.run_clear_slice wr _ _ ty _ Try.underlying63 (fun _ => by kernel_rfl) rfl rfl gb i _ _ (by omega) (fun t ht => by rw [jE HG.out, Array.getElem?_eq_getElem (by rw [HI.out.size]; omega)]; rfl) (fun t ht => jF HG.out _)
      obtain ⟨cs', h1, h2, h3⟩ := blk_cells (List.replicate (xs.length - i) (Value.slice none 0 0)) i wr cur HG.out
      have H1 := jA h1
      have H3 := jA h3
      clear h1 h3
      go_wp2
      go_ret
      refine ⟨by rw [← HI.out.len]; rfl, cs', H1.out, by rw [h2, HI.out.size], ?_, ?_, ?_⟩
      · intro t k ht
        have htl : t < i := by rw [HI.out.len]; exact (List.getElem?_eq_some_iff.1 ht).1
        rw [H3.out t (by rw [HI.out.size]; omega), if_neg (by omega)]
        exact HI.out.low t k ht
      · exact Kept.of_grown (own_cells _ _ _) HK.out (fun k e => by cases e; exact .inl rfl)
      · exact HB'.out.grown (own_cells _ _ _) (Nat.le_trans hbg (Nat.le_of_lt (blk_lt HG.out))) (fun k e => by cases e; exact hbg)
theorem hit_upto (p : List Int → Bool) (l : List (List Int)) : ∀ m : Nat, (∀ j, j < m → p (l.getD j []) = false) ∨ ∃ k, k < m ∧ p (l.getD k []) = true ∧ ∀ j, j < k → p (l.getD j []) = false
  | 0 => .inl fun j hj => absurd hj (Nat.not_lt_zero j)
  | m + 1 => by
    rcases hit_upto p l m with h | ⟨k, hk, ht, h⟩
    · cases e : p (l.getD m []) with
      | true => exact .inr ⟨m, Nat.lt_succ_self m, e, h⟩
      | false =>
        refine .inl fun j hj => ?_
        by_cases c : j = m
        · rw [c]; exact e
        · exact h j (by omega)
    · exact .inr ⟨k, by omega, ht, h⟩
theorem hit_exists (p : List Int → Bool) (l : List (List Int)) : ∃ i, Hit p l i := by
  rcases hit_upto p l l.length with h | ⟨k, hk, ht, h⟩
  · exact ⟨-1, .inl ⟨rfl, h⟩⟩
  · exact ⟨k, .inr ⟨k, rfl, hk, ht, h⟩⟩
theorem hit_unique {p : List Int → Bool} {l : List (List Int)} {i i' : Int} (h : Hit p l i) (h' : Hit p l i') : i' = i := by
  rcases h with ⟨rfl, h⟩ | ⟨k, rfl, hk, ht, h⟩ <;> rcases h' with ⟨rfl, h'⟩ | ⟨k', rfl, hk', ht', h'⟩
  · rfl
  · rw [h k' hk'] at ht'; cases ht'
  · rw [h' k hk] at ht; cases ht
  · rcases Nat.lt_trichotomy k k' with c | c | c
    · rw [h' k c] at ht; cases ht
    · rw [c]
    · rw [h k' c] at ht'; cases ht'

set_option maxHeartbeats 2000000 in
theorem deleteFunc_rows (p : List Int → Bool) (g : Nat) (lb : Array Value) (eg : ∀ args w, (callFunc g args).run Try.prog w = .ok (.enter g args) w) (base : Nat) (v : Value) (xs : List (List Int)) (w0 w : World)
    (HS : Kd.S (Kd.slice 3 (Kd.int .i64)) 24 w base (fun _ => True) v xs) (hn : xs.length ≤ 1000000) (hbw : base ≤ w.heap.size) (hB : Below base w0 w) (hp : PredR g lb p xs (fun W => Below base w0 W)) :
    Calls Try.prog 290 #[v, .func (.func g) #[] lb] w fun e w' => ∃ v', e = .returned v' ∧ Kd.S (Kd.slice 3 (Kd.int .i64)) 24 w' base (fun _ => True) v' (xs.filter fun x => !p x) ∧ Below base w0 w' := by
  obtain ⟨A, c, rfl⟩ := Kd.S_slice HS
  have hrd := Kd.S_reads' HS
  obtain ⟨i, hi⟩ := hit_exists p xs
  have hIF := indexFunc_rows p g lb eg A c xs w hrd.2.2 hrd.2.1 (fun W A c l hl hW => hp W A c l hl (below_then hB hbw hW))
  have hIF2 : Calls Try.prog 312 #[.slice A xs.length c, .func (.func g) #[] lb] w fun e w' => e = .returned (.int .i64 i) ∧ Below w.heap.size w w' := by
    refine hIF.mono ?_
    rintro e w' ⟨⟨i', rfl, hi'⟩, hb⟩
    rw [hit_unique hi hi']
    exact ⟨rfl, hb⟩
  clear hIF
  rcases hi with ⟨rfl, hall⟩ | ⟨k0, rfl, hk0, hpk, hlow⟩
  · have hf : (xs.filter fun x => !p x) = xs := by
      rw [List.filter_eq_self]
      intro x hx
      obtain ⟨j, hj, rfl⟩ := List.getElem_of_mem hx
      have := hall j hj
      rw [List.getD_eq_getElem?_getD, List.getElem?_eq_getElem hj, Option.getD_some] at this
      rw [this]; rfl
    have HF := jA hf
    have HSS := jA HS
    have HIF := jA hIF2
    clear HS hp hf hall hIF2 hrd
    go_enter Try.func290, Try.ntmps290
    go_wp2_with (go_at_call 312; refine HIF.out.mono ?_; rintro e w1 ⟨rfl, hb1⟩)
    go_ret
    exact ⟨_, rfl, by rw [HF.out]; exact Kd.S_below HSS.out hb1, below_then hB hbw hb1⟩
  · obtain ⟨gb, cap, e1, hbg, hgl, _⟩ := Kd.S_form HS (by omega)
    injection e1 with e1 _ e2
    subst e1; subst e2
    obtain ⟨f, hok, inner, ho, hr⟩ := HS
    obtain ⟨hil, ho2⟩ := ho
    rcases ho2 with ⟨h, _⟩ | ⟨g', cap', cur, h, hb', hh, hnc, hcm, hcs, hct⟩
    · cases h
    injection h with h1 _ h3
    injection h1 with h1
    injection h1 with h1
    subst h1; subst h3
    have hzl : xs.zipIdx.length = xs.length := List.length_zipIdx
    rw [hzl] at hnc hct hil
    have hs1 : (Kd.tag f (Kd.slice 3 (Kd.int .i64))).sz = 1 := rfl
    rw [hs1, Nat.mul_one] at hct hil hcs
    have hin : ∀ t, t < xs.length → cur[t]? = inner[t]? := by
      intro t ht
      rw [← hct, List.getElem?_take_of_lt ht, Array.getElem?_toList]
    have hM : ∀ W, Kept w W (fun k => k = gb) → ∀ j, j < xs.length → ∃ u, inner[j]? = some u ∧ (Kd.slice 3 (Kd.int .i64)).M W base (fun k => (True ∧ some k ≠ (Value.slice (some ⟨gb, 0, none⟩) xs.length c).ownBlock) ∧ f k = j) (xs.getD j []) [u] := by
      intro W hW j hj
      have h := hr.2 j (xs[j], j) (Kd.zip_at (List.getElem?_eq_getElem hj))
      rw [hs1, Nat.mul_one] at h
      obtain ⟨u, hu⟩ : ∃ u, inner[j]? = some u := ⟨inner[j]'(by omega), List.getElem?_eq_getElem _⟩
      have e : (inner.drop j).take 1 = [u] := by
        rw [List.drop_eq_getElem_cons (by omega)]
        rw [List.getElem?_eq_getElem (by omega)] at hu
        cases hu; rfl
      rw [e] at h
      refine ⟨u, hu, ?_⟩
      rw [List.getD_eq_getElem?_getD, List.getElem?_eq_getElem hj, Option.getD_some]
      exact Kd.M_kept h hW (fun k hk e => hk.1.2 (by rw [e]; rfl))
    have hrow : ∀ W, Kept w W (fun k => k = gb) → ∀ j, j < xs.length → ∃ A c, inner[j]? = some (.slice A (xs.getD j []).length c) ∧ (xs.getD j []).length ≤ c ∧ Kd.C (Kd.int .i64) W A (xs.getD j []).length (xs.getD j []) := by
      intro W hW j hj
      obtain ⟨u, hu, h⟩ := hM W hW j hj
      obtain ⟨A, c, e, hc, hC⟩ := (Kd.slice 3 (Kd.int .i64)).K_of_M h
      cases e
      exact ⟨A, c, hu, hc, hC⟩
    refine (deleteFunc_hit p g lb eg base gb c k0 xs inner cur w0 w hbg hn hnc (by have e : maxLen = 9223372036854775807 := rfl; omega) hh hcs hin hrow hB hp hk0 hpk hlow hIF2).mono ?_
    rintro e w' ⟨rfl, cur', h1, h2, h3, h4, h5⟩
    have hkm := keptI_map p xs
    have hkl : ((xs.filter fun x => !p x)).length = (keptI p xs xs.length).length := by rw [← hkm, List.length_map]
    have hcl : cur'.toList.length = c := by rw [← h2]; exact Array.length_toList
    have hkx : (keptI p xs xs.length).length ≤ xs.length := by rw [← hkl]; exact List.length_filter_le _ _
    refine ⟨_, rfl, ?_, h5⟩
    obtain ⟨f', hR⟩ := Kd.reps_tag (d := Kd.slice 3 (Kd.int .i64)) (w := w') (base := base) (ok := fun k => True ∧ some k ≠ (Value.slice (some ⟨gb, 0, none⟩) (keptI p xs xs.length).length c).ownBlock) (xs := xs.filter fun x => !p x) (inner := cur'.toList.take (keptI p xs xs.length).length)
      (fun t k => (True ∧ some k ≠ (Value.slice (some ⟨gb, 0, none⟩) xs.length c).ownBlock) ∧ (keptI p xs xs.length)[t]? = some (f k))
      (fun i j k hi hj => (List.getElem?_inj (List.getElem?_eq_some_iff.1 hi.2).1 (keptI_nodup p xs _)).1 (hi.2.trans hj.2.symm))
      (fun j k hk => hk.1)
      (by rw [hkl, List.length_take, hcl]; show _ = _ * 1; omega)
      (fun t x hx => by
        rw [← hkm, List.getElem?_map] at hx
        obtain ⟨k, hk, rfl⟩ := Option.map_eq_some_iff.1 hx
        have hkn := keptI_lt p xs _ t k hk
        obtain ⟨u, hu, hmu⟩ := hM w' h4 k hkn
        have htl := (List.getElem?_eq_some_iff.1 hk).1
        have e : ((cur'.toList.take (keptI p xs xs.length).length).drop (t * 1)).take 1 = [u] := by
          have hcu : cur'.toList[t]? = some u := by rw [Array.getElem?_toList, h3 t k hk, hu]
          rw [Nat.mul_one, List.drop_take, List.take_take, List.drop_eq_getElem_cons (by rw [hcl]; omega), Nat.min_eq_left (by omega), List.take_succ_cons, List.take_zero]
          rw [List.getElem?_eq_getElem (by rw [hcl]; omega)] at hcu
          cases hcu; rfl
        show (Kd.slice 3 (Kd.int .i64)).M w' base _ _ (((cur'.toList.take (keptI p xs xs.length).length).drop (t * 1)).take 1)
        rw [e]
        exact (Kd.slice 3 (Kd.int .i64)).M_mono (fun q hq => ⟨hq.1, by rw [hk, hq.2]⟩) hmu)
    refine ⟨f', fun _ _ => trivial, _, ⟨?_, .inr ⟨gb, c, cur', by rw [List.length_zipIdx, hkl], hbg, h1, ?_, hcm, ?_, ?_⟩⟩, hR⟩
    · rw [List.length_zipIdx, hkl, List.length_take, hcl]; show _ = _ * 1; omega
    · rw [List.length_zipIdx, hkl]; omega
    · rw [h2]; show _ = _ * 1; omega
    · rw [List.length_zipIdx, hkl]; show List.take (_ * 1) _ = _; rw [Nat.mul_one]


/-! ### slices_Clone_int_int: function 250 -/
/-- A copy. -/
def slices_Clone_int_int.f (l0 : List Int) : Option (List Int) := if l0.length < 4398046511104 then (some l0) else (none)
theorem slices_Clone_int_int.calls (A0 : Option Addr) (c0 : Nat) (l0 : List Int) (r : List Int) (w : World) (hr0 : Kd.C (Kd.int .i64) w A0 l0.length l0) (hc0 : l0.length ≤ c0) (h : slices_Clone_int_int.f l0 = some r) :
 Calls Try.prog 250 #[.slice A0 l0.length c0] w fun e w' => ∃ v0_ : Value, e = .returned (v0_) ∧ Kd.R (Kd.int .i64) 3 w' w.heap.size (fun _ => True) v0_ r ∧ Below w.heap.size w w' := by
 have HR0 := jA hr0
 have HB := jA (jU w.heap.size w)
 by_cases c2 : l0.length < 4398046511104
 · have H : l0 = r := by unfold slices_Clone_int_int.f at h; rw [if_pos c2] at h; exact jM h
   subst H
   clear h
   have LM := jA c2
   clear c2 hr0 hc0
   cases A0 with
   | none =>
    have hnil := fun W => Go.Lib.run_eql_slice_nil (P := Try.prog) W 24 3 none l0.length c0 0 0 Try.underlying24
    go_enter Try.func250, Try.ntmps250
    go_wp2
    go_ret
    have e0 : l0 = [] := by
     rcases l0 with _ | ⟨x, s⟩
     · rfl
     obtain ⟨ad, he, _⟩ := HR0.out.2.2 (by simp)
     cases he
    subst e0
    exact ⟨_, rfl, Kd.R_nil _ _ _ _ _, jU _ _⟩
   | some ad =>
    have hnil := fun W => Go.Lib.run_eql_slice_nil (P := Try.prog) W 24 3 (some ad) l0.length c0 0 0 Try.underlying24
    go_enter Try.func250, Try.ntmps250
    go_wp2_with (first | ((with_reducible refine gate_dst (N := 5) rfl ?_); refine Kd.R_lit (Kd.int .i64) _ 3 ?hg (N := 5) ?hd (xs := ([] : List Int)) (inner := []) (ok := fun _ => True) (okp := fun _ => True) ?hr ?hp (fun _ hk => hk) trivial (jU _ _) (jX _) (by simp) ?_; (case hd => rfl); (case hg => rfl); (case hr => first | (go_simp; done) | (go_simp; rfl)); (case hp => exact (Reps.none _ _)); intro v120 w3 ho4 hb hg_ hnew_; clear hg_ hnew_; have HO121 := jA (jf ho4 (jL Ub)); replace HB := jA (jB Ub hb); clear hb ho4) | ((with_reducible refine gate_builtin (b := .append) (xs := #[.tmp 5, .tmp 6]) rfl ?_); at_builtin; refine Kd.R_append_rows (Kd.int .i64) (w0 := w) w.heap.size rfl (.tmp 5) (.tmp 6) 24 3 (.int .i64 0) 8 rfl Try.underlying24 info3 rfl (by decide) (by omega) v120 [] l0 _ _ _ (fun _ => True) (fun _ => False) rfl rfl ?aO ?aR (fun _ _ h => h) (fun _ h => h.elim) ?aF ?aB ?aS ?aL ?_; (case aR => repeat (first | exact (jY HR0.out HB.out) | (with_reducible refine Xc ?_))); (case aB => exact Ub); (case aF => exact (fun _ _ => trivial)); (case aO => exact (Rm HO121.out)); (case aS => exact (jL Ub)); (case aL => have := LM.out; simp; omega); intro v123 w5 ho hb hg hat; replace HB := jA (hb); have HO124 := jA (ho); clear HO121; clear ho hb hg hat))
    go_ret
    exact ⟨_, rfl, HO124.out, HB.out⟩
 unfold slices_Clone_int_int.f at h
 rw [if_neg c2] at h
 cases h


/-! ### impl_hidden_1: function 313 -/
-- GIVEN loop.example/g01305/impl.hidden$1 raw=1
-- NEEDS slices.Clone[[]int,int]
-- USES hidden
/-- What a look has done: the box has rows, the elder blocks are kept. -/
def HidP (gO gP g22 g115 : Nat) (fv : Value) (base : Nat) (w0 w : World) (v0 : Value) (tot : List (List Int)) (w' : World) : Prop :=
  ∃ v', w'.heap[gO]? = some (.cells #[v'] g22 (0, 0)) ∧ w'.heap[gP]? = some (.cells #[fv] g115 (0, 0)) ∧ Kd.S (Kd.slice 3 (Kd.int .i64)) 24 w' base (fun _ => True) v' tot ∧ Kept w w' (fun k => k = gO ∨ some k = v0.ownBlock) ∧ (∀ k, v'.ownBlock = some k → v0.ownBlock = some k ∨ w.heap.size ≤ k) ∧ Below base w0 w'

set_option maxHeartbeats 2000000 in
set_option maxRecDepth 100000 in
theorem hidden_1 (gO gP base : Nat) (w0 : World) (hbO : base ≤ gO) : ∀ (d : Nat) (A : Option Addr) (c : Nat) (l : List Int) (p : Int) (v : Value) (xs : List (List Int)) (w : World),
    l.length + d = 4 → 1 ≤ p → p ≤ 6 → (xs ++ hidL d l p).length ≤ 1000000 →
    w.heap[gO]? = some (.cells #[v] 63 (0, 0)) → w.heap[gP]? = some (.cells #[.func (.func 313) #[] #[.pointer (some ⟨gO, 0, none⟩), .pointer (some ⟨gP, 0, none⟩)]] 150 (0, 0)) →
    Below base w0 w → base ≤ w.heap.size →
    Kd.S (Kd.slice 3 (Kd.int .i64)) 24 w base (fun k => some k ≠ (Value.slice A l.length c).ownBlock) v xs →
    Kd.R (Kd.int .i64) 3 w base (fun _ => True) (.slice A l.length c) l →
    Calls Try.prog 313 #[.slice A l.length c, .int .i64 p, .pointer (some ⟨gO, 0, none⟩), .pointer (some ⟨gP, 0, none⟩)] w fun e w' => e = .returned (.tuple #[]) ∧ HidP gO gP 63 150 (.func (.func 313) #[] #[.pointer (some ⟨gO, 0, none⟩), .pointer (some ⟨gP, 0, none⟩)]) base w0 w v (xs ++ hidL d l p) w' := by
  intro d
  induction d with
  | zero =>
    intro A c l p v xs w hl hp1 hp6 hlen hO hP hB hbase hS hR
    have HO := jA hO
    have HP := jA hP
    have HB := jA hB
    have HBS := jA hbase
    have HS := jA hS
    have HR := jA hR
    have HL := jA hlen
    have hcO : w.cell? ⟨gO, 0, none⟩ = some v := (jE hO 0).trans rfl
    have hcP : w.cell? ⟨gP, 0, none⟩ = some (.func (.func 313) #[] #[.pointer (some ⟨gO, 0, none⟩), .pointer (some ⟨gP, 0, none⟩)]) := (jE hP 0).trans rfl
    have hl4 : ((l.length : Int) == 4) = true := by simp; omega
    clear hO hP hB hbase hS hR hlen
    go_enter Try.func313, Try.ntmps313
    go_wp2_with ((with_reducible refine gate_builtin (b := .append) (xs := #[.tmp 7, .tmp 9]) rfl ?_); at_builtin; refine Aside0.out ?_)
    refine jA ?_
    refine Kd.S_append (Kd.slice 3 (Kd.int .i64)) (w0 := w0) base rfl (.tmp 7) (.tmp 9) 63 24 (.slice none 0 0) 24 rfl Try.underlying63 info24 rfl (by decide) (by omega) v xs l [.slice A l.length c] (fun _ => True) (fun k => some k = (Value.slice A l.length c).ownBlock) rfl (by first | (go_simp; done) | (go_simp; rfl)) ?aP ?aK ?aF ?aO ?aB ?aS ?aL ?_
    (case aP => exact Kd.M_row (jW (Kd.R_tight rfl HR.out) (fun _ h_ => h_)))
    (case aK => intro k hk; refine ⟨trivial, fun e => ?_⟩; obtain ⟨cs1, h1⟩ := Kd.R_typed HR.out k hk.symm; obtain ⟨cs2, h2⟩ := Kd.S_typed HS.out k e.symm; rw [h1] at h2; cases h2)
    (case aF => exact fun _ _ => trivial)
    (case aO => exact (Kd.S_mono HS.out (fun k hk => ⟨trivial, hk⟩)))
    (case aB => exact HB.out)
    (case aS => have := HBS.out; omega)
    (case aL => have := HL.out; simp [hidL] at this; omega)
    intro v1 w1 ho hb hg hat
    obtain ⟨A1, c1, rfl⟩ := Kd.S_slice ho
    have hne := Kd.S_ne HS.out HO.out (by decide)
    have hneP := Kd.S_ne HS.out HP.out (by decide)
    have HO1 := jA (js HO.out hg hne)
    have HP1 := jA (js HP.out hg hneP)
    have hcO1 : w1.cell? ⟨gO, 0, none⟩ = some v := (jE HO1.out 0).trans rfl
    have hfO1 := jF HO1.out 0
    have HG := jA hg
    have HT := jA hat
    have HS1 := jA ho
    have HB1 := jA hb
    clear hb ho hg hat hcO hcP
    go_wp2
    refine bodyPost_ret (results_none rfl _ _ _) rfl ?_
    have hgP : gP ≠ gO := blk_ne HP.out HO.out (by decide)
    have HO2 := jA (jp HO1.out 0 (.slice A1 (xs ++ [l]).length c1) (cs' := #[.slice A1 (xs ++ [l]).length c1]) rfl)
    have HP2 := jA (jk HP1.out (p := ⟨gO, 0, none⟩) hgP (.slice A1 (xs ++ [l]).length c1))
    have HS2 := jA (Kd.S_set HS1.out HO1.out (by decide) 0 (.slice A1 (xs ++ [l]).length c1))
    have HK2 := jA (Kept.setCell (p := ⟨gO, 0, none⟩) (Kept.of_grown HG.out (Kept.refl w (fun k => k = gO ∨ some k = v.ownBlock)) (fun k e => .inl (.inr e.symm))) (.inl (.inl rfl)) (.slice A1 (xs ++ [l]).length c1))
    have HB2 := jA (Below.setCell HB1.out (p := ⟨gO, 0, none⟩) hbO (.slice A1 (xs ++ [l]).length c1))
    have HT2 : Aside0 (∀ k, (Value.slice A1 (xs ++ [l]).length c1).ownBlock = some k → v.ownBlock = some k ∨ w.heap.size ≤ k) := ⟨fun k e => by
      rcases HT.out with h | ⟨b, h, hb⟩
      · exact .inl (h ▸ e)
      · rw [h] at e; cases e; exact .inr hb⟩
    rw [show xs.length + 1 = (xs ++ [l]).length by simp]
    exact ⟨rfl, _, HO2.out, HP2.out, HS2.out, HK2.out, HT2.out, HB2.out⟩
  | succ d ih =>
    intro A c l p v xs w hl hp1 hp6 hlen hO hP hB hbase hS hR
    have HO := jA hO
    have HP := jA hP
    have HB := jA hB
    have HBS := jA hbase
    have HS := jA hS
    have HR := jA hR
    have HL := jA hlen
    have IH := jA ih
    have hcO : w.cell? ⟨gO, 0, none⟩ = some v := (jE hO 0).trans rfl
    have hcP : w.cell? ⟨gP, 0, none⟩ = some (.func (.func 313) #[] #[.pointer (some ⟨gO, 0, none⟩), .pointer (some ⟨gP, 0, none⟩)]) := (jE hP 0).trans rfl
    have hl4 : ((l.length : Int) == 4) = false := by simp; omega
    clear hO hP hB hbase hS hR hlen ih
    go_enter Try.func313, Try.ntmps313
    go_wp2_with ((with_reducible refine gate_builtin (b := .append) (xs := #[.tmp 7, .tmp 9]) rfl ?_); at_builtin; refine Aside0.out ?_)
    refine jA ?_
    refine Kd.S_append (Kd.slice 3 (Kd.int .i64)) (w0 := w0) base rfl (.tmp 7) (.tmp 9) 63 24 (.slice none 0 0) 24 rfl Try.underlying63 info24 rfl (by decide) (by omega) v xs l [.slice A l.length c] (fun _ => True) (fun k => some k = (Value.slice A l.length c).ownBlock) rfl (by first | (go_simp; done) | (go_simp; rfl)) ?aP ?aK ?aF ?aO ?aB ?aS ?aL ?_
    (case aP => exact Kd.M_row (jW (Kd.R_tight rfl HR.out) (fun _ h_ => h_)))
    (case aK => intro k hk; refine ⟨trivial, fun e => ?_⟩; obtain ⟨cs1, h1⟩ := Kd.R_typed HR.out k hk.symm; obtain ⟨cs2, h2⟩ := Kd.S_typed HS.out k e.symm; rw [h1] at h2; cases h2)
    (case aF => exact fun _ _ => trivial)
    (case aO => exact (Kd.S_mono HS.out (fun k hk => ⟨trivial, hk⟩)))
    (case aB => exact HB.out)
    (case aS => have := HBS.out; omega)
    (case aL => have := HL.out; simp [hidL] at this; omega)
    intro v1 w1 ho hb hg hat
    obtain ⟨A1, c1, rfl⟩ := Kd.S_slice ho
    have hne := Kd.S_ne HS.out HO.out (by decide)
    have hneP := Kd.S_ne HS.out HP.out (by decide)
    have HO1 := jA (js HO.out hg hne)
    have HP1 := jA (js HP.out hg hneP)
    have hcO1 : w1.cell? ⟨gO, 0, none⟩ = some v := (jE HO1.out 0).trans rfl
    have hfO1 := jF HO1.out 0
    have HG := jA hg
    have HT := jA hat
    have HS1 := jA ho
    have HB1 := jA hb
    clear hb ho hg hat hcO hcP
    go_wp2
    have hgP : gP ≠ gO := blk_ne HP.out HO.out (by decide)
    have HO2 := jA (jp HO1.out 0 (.slice A1 (xs ++ [l]).length c1) (cs' := #[.slice A1 (xs ++ [l]).length c1]) rfl)
    have HP2 := jA (jk HP1.out (p := ⟨gO, 0, none⟩) hgP (.slice A1 (xs ++ [l]).length c1))
    have HS2 := jA (Kd.S_set HS1.out HO1.out (by decide) 0 (.slice A1 (xs ++ [l]).length c1))
    have HK2 := jA (Kept.setCell (p := ⟨gO, 0, none⟩) (Kept.of_grown HG.out (Kept.refl w (fun k => k = gO ∨ some k = v.ownBlock)) (fun k e => .inl (.inr e.symm))) (.inl (.inl rfl)) (.slice A1 (xs ++ [l]).length c1))
    have HB2 := jA (Below.setCell HB1.out (p := ⟨gO, 0, none⟩) hbO (.slice A1 (xs ++ [l]).length c1))
    have HT2 : Aside0 (∀ k, (Value.slice A1 (xs ++ [l]).length c1).ownBlock = some k → v.ownBlock = some k ∨ w.heap.size ≤ k) := ⟨fun k e => by
      rcases HT.out with h | ⟨b, h, hb⟩
      · exact .inl (h ▸ e)
      · rw [h] at e; cases e; exact .inr hb⟩
    rw [show xs.length + 1 = (xs ++ [l]).length by simp]
    clear HO1 HP1 HS1 HB1 HG HT hcO1 hfO1 hl4
    generalize hn1 : (xs ++ [l]).length = n1 at HO2 HP2 HS2 HK2 HB2 HT2 ⊢
    go_loopg [6] 6 (fun gg v6 w' => ∃ (q : Int) (v' : Value) (xs' : List (List Int)), v6 = .int .i64 q ∧ Aside0 (1 ≤ q ∧ q ≤ 7 ∧ (7 - q).toNat ≤ gg) ∧ Aside0 (w'.heap[gO]? = some (.cells #[v'] 63 (0, 0))) ∧ Aside0 (w'.heap[gP]? = some (.cells #[.func (.func 313) #[] #[.pointer (some ⟨gO, 0, none⟩), .pointer (some ⟨gP, 0, none⟩)]] 150 (0, 0))) ∧ Aside0 (Kd.S (Kd.slice 3 (Kd.int .i64)) 24 w' base (fun _ => True) v' xs') ∧ Aside0 (Kept w w' (fun k => k = gO ∨ some k = v.ownBlock)) ∧ Aside0 (∀ k, v'.ownBlock = some k → v.ownBlock = some k ∨ w.heap.size ≤ k) ∧ Aside0 (Below base w0 w') ∧ Aside0 (xs' ++ hidR d l q = xs ++ hidL (d + 1) l p))
    case atStart => exact ⟨p, _, xs ++ [l], rfl, ⟨hp1, by omega, by omega⟩, HO2, HP2, HS2, HK2, HT2, HB2, ⟨by simp [hidL, hidR]⟩⟩
    case round =>
      clear HO2 HP2 HS2 HK2 HT2 HB2
      obtain ⟨q, v', xs', rfl, HQ, HO', HP', HS', HK', HT', HB', HX⟩ := hrel
      have ⟨hq1, hq7, hqg⟩ := HQ.out
      by_cases hq : q ≤ 6
      · have hq0 := jK hq
        have hcO : wr.cell? ⟨gO, 0, none⟩ = some v' := (jE HO'.out 0).trans rfl
        have hcP : wr.cell? ⟨gP, 0, none⟩ = some (.func (.func 313) #[] #[.pointer (some ⟨gO, 0, none⟩), .pointer (some ⟨gP, 0, none⟩)]) := (jE HP'.out 0).trans rfl
        have HRw := jA (Kd.R_reads' (Kd.R_kept (Kd.R_tight rfl HR.out) HK'.out (fun k hk h => by
          obtain ⟨cs1, h1⟩ := Kd.R_typed HR.out k hk.symm
          rcases h with rfl | h
          · rw [HO.out] at h1; cases h1
          · obtain ⟨cs2, h2⟩ := Kd.S_typed HS.out k h.symm; rw [h1] at h2; cases h2)))
        have hl4 : l.length ≤ 4 := by omega
        have HW := jA (jU wr.heap.size wr)
        go_wp2_with fail
        have hbw : base ≤ wr.heap.size := Nat.le_trans HBS.out HK'.out.1
        have hle4 : (l ++ [q]).length + d = 4 := by simp; omega
        have hX : (xs' ++ hidL d (l ++ [q]) q) ++ hidR d l (q + 1) = xs ++ hidL (d + 1) l p := by have e := HX.out; rw [hidR_step d l q hq] at e; rw [List.append_assoc]; exact e
        have hXl : (xs' ++ hidL d (l ++ [q]) q).length ≤ 1000000 := by have e := HL.out; rw [← hX, List.length_append] at e; omega
        have HX' := jA hX
        have HXl := jA hXl
        have HLE := jA hle4
        have HBW := jA hbw
        clear hX hXl hle4 hbw HX
        go_region_held_law (fun w' => w'.cell? ⟨gP, 0, none⟩ = some (.func (.func 313) #[] #[.pointer (some ⟨gO, 0, none⟩), .pointer (some ⟨gP, 0, none⟩)]))
          (first | exact pw_cell_below HB3.out hcP | exact pw_cell_below HB4.out hcP | exact (jE HP5.out 0).trans rfl | go_keep)
          (first
            | (go_at_call 250; refine (slices_Clone_int_int.calls A c l l _ (by first | exact Kd.C_drew HRw.out.2.2 | exact Kd.C_alloc (Kd.C_drew HRw.out.2.2) _) HRw.out.2.1 (by unfold slices_Clone_int_int.f; rw [if_pos (by omega)])).mono ?_; rintro e w3 ⟨v3, rfl, ho3, hb3⟩; have HB3 : Aside0 (Below wr.heap.size wr w3) := ⟨by first | exact jB (below_drew (jU _ _)) hb3 | exact jB (jP (below_drew (jU _ _)) _) hb3⟩; have HO3 : Aside0 (Kd.R (Kd.int .i64) 3 w3 wr.heap.size (fun _ => True) v3 l) := ⟨jf ho3 (by simp)⟩; (try have HQ3 := jA (pw_cell_below hb3 (show ((wr.drew).alloc (.cells #[.int .i64 q] 3)).cell? ⟨wr.heap.size, 0, none⟩ = some (.int .i64 q) from (jE (blk_new wr.drew _) 0).trans rfl))); clear ho3 hb3)
            | (refine step_E (by rfl) (Kd.R_append_rows_step (Kd.int .i64) (w0 := wr) wr.heap.size (by rfl) (.tmp 21) (.tmp 23) 24 3 (.int .i64 0) 8 rfl Try.underlying24 info3 rfl (by decide) (by omega) v3 l [q] _ _ _ (fun _ => True) (fun _ => False) rfl rfl ?aO ?aR (fun _ _ h => h) (fun _ h => h.elim) (fun _ _ => trivial) ?aB ?aS ?aL ?_); (case aO => first | exact HO3.out | exact Kd.R_alloc HO3.out _); (case aR => first | exact C_one HQ3.out | exact C_one ((jE (blk_new w3 _) 0).trans rfl)); (case aB => first | exact HB3.out | exact jP HB3.out _); (case aS => have := HB3.out.size; first | omega | (simp; omega)); (case aL => omega); intro v4 w4 ho4 hb4 hg4 hat4; obtain ⟨A4, c4, rfl⟩ := jq ho4; have HO4 := jA ho4; have HB4 := jA hb4; clear ho4 hb4 hg4 hat4; have ih4 := IH.out A4 c4 (l ++ [q]) q v' xs' w4 HLE.out (by omega) (by omega) HXl.out (jN HO'.out HB4.out) (jN HP'.out HB4.out) (below_then HB'.out HBW.out HB4.out) (Nat.le_trans HBW.out HB4.out.size) (Kd.S_mono (Kd.S_elder' HS'.out (Kd.R_base HO4.out) HB4.out) (fun k hk => hk.2)) (jf HO4.out HBW.out); rw [show (l ++ [q]).length = l.length + 1 from by simp] at ih4; have IHQ := jA ih4; clear ih4)
            | (go_at_call 313; refine IHQ.out.mono ?_; rintro e w5 ⟨rfl, v5, hO5, hP5, hS5, hK5, hT5, hB5⟩; have HO5 := jA hO5; have HP5 := jA hP5; have HS5 := jA hS5; have HK5 := jA hK5; have HT5 := jA hT5; have HB5 := jA hB5; clear hO5 hP5 hS5 hK5 hT5 hB5))
        all_goals (clear hcO hcP; go_wp2)
        all_goals
          go_roundg (gk - 1)
          case measure => have := HQ.out; omega
          case rel =>
            refine ⟨q + 1, v5, _, (by first | rfl | rw [show wrap64 (q + 1) = q + 1 by unfold wrap64; omega]), ⟨by omega, by omega, by omega⟩, HO5, HP5, HS5, ⟨?_⟩, ⟨?_⟩, HB5, HX'⟩
            · exact (HK'.out.below HB4.out).then_ HK5.out (fun k hk => by
                rcases hk with hk | hk
                · exact .inl (.inl hk)
                · rcases HT'.out k hk.symm with h | h
                  · exact .inl (.inr h.symm)
                  · exact .inr h)
            · intro k hk
              rcases HT5.out k hk with h | h
              · exact HT'.out k h
              · exact .inr (Nat.le_trans (Nat.le_trans HK'.out.1 HB4.out.size) h)
      · have hq0 := jV hq
        go_wp2
        refine bodyPost_end (results_none rfl _ _ _) rfl ⟨rfl, v', HO'.out, HP'.out, ?_, HK'.out, HT'.out, HB'.out⟩
        have e := HX.out
        rw [hidR_end _ _ _ (by omega), List.append_nil] at e
        rw [← e]; exact HS'.out


/-! ### impl_hidden: function 291 -/
-- GIVEN loop.example/g01305/impl.hidden raw=1
-- NEEDS loop.example/g01305/impl.hidden$1
set_option maxHeartbeats 2000000 in
set_option maxRecDepth 100000 in
theorem hidden_calls (w : World) : Calls Try.prog 291 #[] w fun e w' => ∃ v, e = .returned v ∧ Kd.S (Kd.slice 3 (Kd.int .i64)) 24 w' w.heap.size (fun _ => True) v (hidL 4 [] 1) ∧ Below w.heap.size w w' := by
  have HB := jA (jU w.heap.size w)
  have hmf : ∀ (fn : Fn) (first cap : Array Value) (w : World), (Instr.makeFunc fn first cap).run Try.prog w = .ok (.func fn first cap) w := fun _ _ _ _ => rfl
  have hsf : ∀ (a : Addr) (fn : Fn) (x y : Array Value) (m : Mode) (w : World), (store a (.func fn x y) m).run Try.prog w = stored Try.prog w a (.func fn x y) m := fun a fn x y m w => run_store Try.prog w a _ m rfl
  go_enter Try.func291, Try.ntmps291
  go_wp2_with (first
    | ((with_reducible refine gate_dst (N := 3) rfl ?_); refine Kd.S_lit (Kd.slice 3 (Kd.int .i64)) (w0 := w) w.heap.size 24 ?hg (N := 3) ?hd (xs := []) (inner := []) (ok := fun _ => True) (okp := fun _ => True) ?hr ?hp (fun _ hk => hk) trivial (jU _ _) (jX _) (by simp) ?_; (case hd => rfl); (case hg => rfl); (case hr => first | (go_simp; done) | (go_simp; rfl)); (case hp => exact (Reps.none _ _)); intro v1 w1 ho1 hb1 hg_ hnew_; obtain ⟨A1, c1, rfl⟩ := Kd.S_slice ho1; clear hg_ hnew_; have HO1 := jA ho1; have HB1 := jA hb1; clear ho1 hb1)
    | ((with_reducible refine gate_dst (N := 6) rfl ?_); refine Kd.R_lit (Kd.int .i64) _ 3 ?hg (N := 6) ?hd (xs := []) (inner := []) (ok := fun _ => True) (okp := fun _ => True) ?hr ?hp (fun _ hk => hk) trivial (jU _ _) (jX _) (by simp) ?_; (case hd => rfl); (case hg => rfl); (case hr => first | (go_simp; done) | (go_simp; rfl)); (case hp => exact (Reps.none _ _)); intro v6 w6 ho6 hb6 hg_ hnew_; obtain ⟨A6, c6, rfl⟩ := jq ho6; clear hg_ hnew_; refine Aside0.out ?_))
  refine jA ?_
  have hO4 : ((w1.alloc (.cells #[.slice A1 0 c1] 63)).alloc (.cells #[.func (.func 313) #[] #[.pointer (some ⟨w1.heap.size, 0, none⟩), .pointer (some ⟨w1.heap.size + 1, 0, none⟩)]] 150)).heap[w1.heap.size]? = some (.cells #[.slice A1 0 c1] 63 (0, 0)) := blk_alloc (blk_new w1 _) _
  have hP4 : ((w1.alloc (.cells #[.slice A1 0 c1] 63)).alloc (.cells #[.func (.func 313) #[] #[.pointer (some ⟨w1.heap.size, 0, none⟩), .pointer (some ⟨w1.heap.size + 1, 0, none⟩)]] 150)).heap[w1.heap.size + 1]? = some (.cells #[.func (.func 313) #[] #[.pointer (some ⟨w1.heap.size, 0, none⟩), .pointer (some ⟨w1.heap.size + 1, 0, none⟩)]] 150 (0, 0)) := by
    have := blk_new (w1.alloc (.cells #[.slice A1 0 c1] 63)) (.cells #[.func (.func 313) #[] #[.pointer (some ⟨w1.heap.size, 0, none⟩), .pointer (some ⟨w1.heap.size + 1, 0, none⟩)]] 150)
    simpa using this
  have hS4 := Kd.S_alloc (Kd.S_alloc HO1.out (.cells #[.slice A1 0 c1] 63)) (.cells #[.func (.func 313) #[] #[.pointer (some ⟨w1.heap.size, 0, none⟩), .pointer (some ⟨w1.heap.size + 1, 0, none⟩)]] 150)
  have hB4 := jP (jP HB1.out (.cells #[.slice A1 0 c1] 63)) (.cells #[.func (.func 313) #[] #[.pointer (some ⟨w1.heap.size, 0, none⟩), .pointer (some ⟨w1.heap.size + 1, 0, none⟩)]] 150)
  generalize (w1.alloc (.cells #[.slice A1 0 c1] 63)).alloc (.cells #[.func (.func 313) #[] #[.pointer (some ⟨w1.heap.size, 0, none⟩), .pointer (some ⟨w1.heap.size + 1, 0, none⟩)]] 150) = w4 at *
  have hC := hidden_1 w1.heap.size (w1.heap.size + 1) w.heap.size w HB1.out.size 4 A6 c6 [] 1 (.slice A1 0 c1) [] w6 rfl (by omega) (by omega) (Nat.le_of_ble_eq_true (by kernel_rfl)) (jN hO4 hb6) (jN hP4 hb6) (jB hB4 hb6) (Nat.le_trans hB4.size hb6.size) (Kd.S_mono (Kd.S_elder' hS4 (Kd.R_base ho6) hb6) (fun k hk => hk.2)) (jf ho6 hB4.size)
  have HC := jA hC
  clear hO4 hP4 hS4 hB4 ho6 hb6 hC
  go_wp2_with (go_at_call 313; refine HC.out.mono ?_; rintro e w7 ⟨rfl, v7, hO7, hP7, hS7, hK7, hT7, hB7⟩; have hcO7 : w7.cell? ⟨w1.heap.size, 0, none⟩ = some v7 := (jE hO7 0).trans rfl)
  go_ret
  exact ⟨_, rfl, hS7, hB7⟩


/-! ### impl_solve_1_1: function 293 -/
-- GIVEN loop.example/g01305/impl.solve$1$1 raw=1
-- NEEDS loop.example/g01305/impl.clueOf
set_option maxHeartbeats 4000000 in
set_option maxRecDepth 100000 in
theorem solve_1_1 (k : Nat) (f0 f1 f2 r1 r2 r3 : Int) (A : Option Addr) (c : Nat) (l : List Int) (bl : Nat) (w : World) (hbl : bl < w.heap.size) (hcell : w.cell? ⟨bl, 0, none⟩ = some (.slice A l.length c)) (hC : Kd.C (Kd.int .i64) w A l.length l) (hc : l.length ≤ c)
    (h : impl_clueOf.f k f0 f1 l = some (r1, r2, r3)) :
    Calls Try.prog 293 #[.agg #[.int .i64 f0, .int .i64 f1, .int .i64 f2], .pointer (some ⟨bl, 0, none⟩)] w fun e w' => e = .returned (.bool (!(r1 == f0 && (r2 == f1 && r3 == f2)))) ∧ Below w.heap.size w w' := by
  have hu58 := Try.underlying58
  have HC := jA hC
  have HCELL := jA hcell
  have HH := jA h
  clear hC h
  go_enter Try.func293, Try.ntmps293
  go_wp2_with fail
  have hb1 := (jE (blk_new w (.cells #[.int .i64 f0, .int .i64 f1, .int .i64 f2] 58)) 0).trans rfl
  have hb2 := (jE (blk_new w (.cells #[.int .i64 f0, .int .i64 f1, .int .i64 f2] 58)) 1).trans rfl
  have hb3 := (jE (blk_new w (.cells #[.int .i64 f0, .int .i64 f1, .int .i64 f2] 58)) 2).trans rfl
  have hb4 := (jU w.heap.size w).alloc (jX _) (.cells #[.int .i64 f0, .int .i64 f1, .int .i64 f2] 58)
  have hb5 := pw_cell_below hb4 hcell
  have HC1 := jA (jY HC.out hb4)
  generalize w.alloc (.cells #[.int .i64 f0, .int .i64 f1, .int .i64 f2] 58) = w1 at hb1 hb2 hb3 hb4 hb5 HC1 ⊢
  have HB4 := jA hb4
  generalize w.heap.size = gB at hb1 hb2 hb3 ⊢
  clear hb4
  have fin : ∀ b : Bool, (!(r1 == f0 && (r2 == f1 && r3 == f2))) = b → Aside0 ((!(r1 == f0 && (r2 == f1 && r3 == f2))) = b) := fun _ h => ⟨h⟩
  by_cases e1 : r1 = f0
  · have c1 : (r1 == f0) = true := by simp [e1]
    by_cases e2 : r2 = f1
    · have c2 : (r2 == f1) = true := by simp [e2]
      by_cases e3 : r3 = f2
      · have c3 : (r3 == f2) = true := by simp [e3]
        have F := fin false (by rw [c1, c2, c3]; rfl)
        clear fin e1 e2 e3
        go_region_held_law (fun w' => w'.cell? ⟨gB, 0, none⟩ = some (.int .i64 f0) ∧ w'.cell? ⟨gB, 1, none⟩ = some (.int .i64 f1) ∧ w'.cell? ⟨gB, 2, none⟩ = some (.int .i64 f2) ∧ w'.cell? ⟨bl, 0, none⟩ = some (.slice A l.length c))
          (first | exact ⟨pw_cell_below HB6.out hb1, pw_cell_below HB6.out hb2, pw_cell_below HB6.out hb3, pw_cell_below HB6.out hb5⟩ | go_keep)
          (first | (go_at_call 216; refine (impl_clueOf.calls k f0 f1 A c l r1 r2 r3 _ (Kd.C_drew HC1.out) hc HH.out).mono ?_; rintro e w6 ⟨rfl, hb6⟩; have HB6 := jA (jB (below_drew (jU w1.heap.size w1)) hb6); clear hb6))
        go_wp2
        go_ret
        exact ⟨by rw [F.out]; rfl, jB HB4.out HB6.out⟩
      · have c3 : (r3 == f2) = false := by simp [e3]
        have F := fin true (by rw [c1, c2, c3]; rfl)
        clear fin e1 e2 e3
        go_region_held_law (fun w' => w'.cell? ⟨gB, 0, none⟩ = some (.int .i64 f0) ∧ w'.cell? ⟨gB, 1, none⟩ = some (.int .i64 f1) ∧ w'.cell? ⟨gB, 2, none⟩ = some (.int .i64 f2) ∧ w'.cell? ⟨bl, 0, none⟩ = some (.slice A l.length c))
          (first | exact ⟨pw_cell_below HB6.out hb1, pw_cell_below HB6.out hb2, pw_cell_below HB6.out hb3, pw_cell_below HB6.out hb5⟩ | go_keep)
          (first | (go_at_call 216; refine (impl_clueOf.calls k f0 f1 A c l r1 r2 r3 _ (Kd.C_drew HC1.out) hc HH.out).mono ?_; rintro e w6 ⟨rfl, hb6⟩; have HB6 := jA (jB (below_drew (jU w1.heap.size w1)) hb6); clear hb6))
        go_wp2
        go_ret
        exact ⟨by rw [F.out]; rfl, jB HB4.out HB6.out⟩
    · have c2 : (r2 == f1) = false := by simp [e2]
      have F := fin true (by rw [c1, c2]; rfl)
      clear fin e1 e2
      go_region_held_law (fun w' => w'.cell? ⟨gB, 0, none⟩ = some (.int .i64 f0) ∧ w'.cell? ⟨gB, 1, none⟩ = some (.int .i64 f1) ∧ w'.cell? ⟨gB, 2, none⟩ = some (.int .i64 f2) ∧ w'.cell? ⟨bl, 0, none⟩ = some (.slice A l.length c))
        (first | exact ⟨pw_cell_below HB6.out hb1, pw_cell_below HB6.out hb2, pw_cell_below HB6.out hb3, pw_cell_below HB6.out hb5⟩ | go_keep)
        (first | (go_at_call 216; refine (impl_clueOf.calls k f0 f1 A c l r1 r2 r3 _ (Kd.C_drew HC1.out) hc HH.out).mono ?_; rintro e w6 ⟨rfl, hb6⟩; have HB6 := jA (jB (below_drew (jU w1.heap.size w1)) hb6); clear hb6))
      go_wp2
      go_ret
      exact ⟨by rw [F.out]; rfl, jB HB4.out HB6.out⟩
  · have c1 : (r1 == f0) = false := by simp [e1]
    have F := fin true (by rw [c1]; rfl)
    clear fin e1
    go_region_held_law (fun w' => w'.cell? ⟨gB, 0, none⟩ = some (.int .i64 f0) ∧ w'.cell? ⟨gB, 1, none⟩ = some (.int .i64 f1) ∧ w'.cell? ⟨gB, 2, none⟩ = some (.int .i64 f2) ∧ w'.cell? ⟨bl, 0, none⟩ = some (.slice A l.length c))
      (first | exact ⟨pw_cell_below HB6.out hb1, pw_cell_below HB6.out hb2, pw_cell_below HB6.out hb3, pw_cell_below HB6.out hb5⟩ | go_keep)
      (first | (go_at_call 216; refine (impl_clueOf.calls k f0 f1 A c l r1 r2 r3 _ (Kd.C_drew HC1.out) hc HH.out).mono ?_; rintro e w6 ⟨rfl, hb6⟩; have HB6 := jA (jB (below_drew (jU w1.heap.size w1)) hb6); clear hb6))
    go_wp2
    go_ret
    exact ⟨by rw [F.out]; rfl, jB HB4.out HB6.out⟩


/-! ### impl_solve_1: function 292 -/
-- GIVEN loop.example/g01305/impl.solve$1 raw=1
-- NEEDS loop.example/g01305/impl.solve$1$1
/-- The first clue that a list does not fit, or -1. -/
def badO (k : Nat) (cs : List S58) (l : List Int) : Option Int := idxO (fun x : S58 => (impl_clueOf.f k x.f0 x.f1 l).bind fun r => some (!(r.1 == x.f0 && (r.2.1 == x.f1 && r.2.2 == x.f2)))) cs 0
set_option maxHeartbeats 4000000 in
set_option maxRecDepth 100000 in
theorem solve_1 (k : Nat) (cs : List S58) (Ac : Option Addr) (cc : Nat) (bc : Nat) (A : Option Addr) (c : Nat) (l : List Int) (w : World) (hcell : w.cell? ⟨bc, 0, none⟩ = some (.slice Ac cs.length cc)) (hCc : Kd.C k58 w Ac cs.length cs) (hcc : cs.length ≤ cc) (hC : Kd.C (Kd.int .i64) w A l.length l) (hc : l.length ≤ c)
    (r : Int) (h : badO k cs l = some r) :
    Calls Try.prog 292 #[.slice A l.length c, .pointer (some ⟨bc, 0, none⟩)] w fun e w' => e = .returned (.bool (decide (0 ≤ r))) ∧ Below w.heap.size w w' := by
  have hmf : ∀ (fn : Fn) (first cap : Array Value) (w : World), (Instr.makeFunc fn first cap).run Try.prog w = .ok (.func fn first cap) w := fun _ _ _ _ => rfl
  have hb4 := (jU w.heap.size w).alloc (jX _) (.cells #[.slice A l.length c] 24)
  have hcl : (w.alloc (.cells #[.slice A l.length c] 24)).cell? ⟨w.heap.size, 0, none⟩ = some (.slice A l.length c) := (jE (blk_new w (.cells #[.slice A l.length c] 24)) 0).trans rfl
  have hsz : w.heap.size < (w.alloc (.cells #[.slice A l.length c] 24)).heap.size := by simp
  have hp : PredC 293 #[.pointer (some ⟨w.heap.size, 0, none⟩)] (fun x : S58 => (impl_clueOf.f k x.f0 x.f1 l).bind fun r => some (!(r.1 == x.f0 && (r.2.1 == x.f1 && r.2.2 == x.f2)))) (w.alloc (.cells #[.slice A l.length c] 24)) := by
    intro W x t hb hx
    obtain ⟨⟨t1, t2, t3⟩, ht, hx⟩ := Option.bind_eq_some_iff.1 hx
    cases hx
    refine (solve_1_1 k x.f0 x.f1 x.f2 t1 t2 t3 A c l w.heap.size W (Nat.lt_of_lt_of_le hsz hb.size) (pw_cell_below hb hcl) (jY (jY hC hb4) hb) hc ht).mono ?_
    rintro e w' ⟨rfl, hb'⟩
    exact ⟨rfl, jB hb hb'⟩
  have HP := jA hp
  have HH := jA h
  have HCC := jA (jY hCc hb4)
  have HB4 := jA hb4
  have hcell1 := pw_cell_below hb4 hcell
  clear hp hcl hsz h hCc hC hb4
  go_enter Try.func292, Try.ntmps292
  go_wp2_with (go_at_call 220; refine (containsFunc_Clue _ r 293 _ (enters_of Try.func293 (by kernel_rfl) rfl) Ac cc cs _ HCC.out hcc HP.out HH.out).mono ?_; rintro e w' ⟨rfl, hb'⟩)
  go_ret
  exact ⟨rfl, jB HB4.out hb'⟩


/-! ### impl_solve: function 225 -/
-- GIVEN loop.example/g01305/impl.solve rounds=1
-- NEEDS loop.example/g01305/impl.solve$1
/-- Those of the hidden pieces that fit all clues, if that can be told of each. -/
def impl_solve.f (k : Nat) (cs : List S58) : Option (List (List Int)) := if (hidL 4 [] 1).all (fun l => (badO k cs l).isSome) = true then some ((hidL 4 [] 1).filter fun l => !(decide (0 ≤ (badO k cs l).getD 0))) else none
set_option maxHeartbeats 4000000 in
set_option maxRecDepth 100000 in
theorem impl_solve.calls (k : Nat) (A0 : Option Addr) (c0 : Nat) (l0 : List S58) (r : List (List Int)) (w : World) (hr0 : Kd.C k58 w A0 l0.length l0) (hc0 : l0.length ≤ c0) (h : impl_solve.f k l0 = some r) :
    Calls Try.prog 225 #[.slice A0 l0.length c0] w fun e w' => ∃ v0_ : Value, e = .returned (v0_) ∧ Kd.S (Kd.slice 3 (Kd.int .i64)) 24 w' w.heap.size (fun _ => True) v0_ r ∧ Below w.heap.size w w' := by
  have hmf : ∀ (fn : Fn) (first cap : Array Value) (w : World), (Instr.makeFunc fn first cap).run Try.prog w = .ok (.func fn first cap) w := fun _ _ _ _ => rfl
  unfold impl_solve.f at h
  by_cases c : (hidL 4 [] 1).all (fun l => (badO k l0 l).isSome) = true
  · rw [if_pos c] at h
    obtain rfl := jM h
    clear h
    have hb4 := (jU w.heap.size w).alloc (jX _) (.cells #[.slice A0 l0.length c0] 50)
    have hcl : (w.alloc (.cells #[.slice A0 l0.length c0] 50)).cell? ⟨w.heap.size, 0, none⟩ = some (.slice A0 l0.length c0) := (jE (blk_new w (.cells #[.slice A0 l0.length c0] 50)) 0).trans rfl
    have hp : PredR 292 #[.pointer (some ⟨w.heap.size, 0, none⟩)] (fun l => decide (0 ≤ (badO k l0 l).getD 0)) (hidL 4 [] 1) (fun W => Below (w.alloc (.cells #[.slice A0 l0.length c0] 50)).heap.size (w.alloc (.cells #[.slice A0 l0.length c0] 50)) W) := by
      intro W A cc l hl hb hC hc
      obtain ⟨t, ht⟩ := Option.isSome_iff_exists.1 (List.all_eq_true.1 c l hl)
      have := solve_1 k l0 A0 c0 w.heap.size A cc l W (pw_cell_below hb hcl) (jY (jY hr0 hb4) hb) hc0 hC hc t ht
      have e : decide (0 ≤ (badO k l0 l).getD 0) = decide (0 ≤ t) := by rw [ht]; rfl
      show Calls Try.prog 292 _ W fun e w' => e = .returned (.bool (decide (0 ≤ (badO k l0 l).getD 0))) ∧ _
      rw [e]
      exact this
    have HP := jA hp
    have HB4 := jA hb4
    clear hp hcl hr0 hb4 c
    go_enter Try.func225, Try.ntmps225
    go_wp2_with (first | (go_at_call 291; refine (hidden_calls _).mono ?_; rintro e w2 ⟨v2, rfl, hs2, hb2⟩) | (go_at_call 290; refine (deleteFunc_rows _ 292 _ (enters_of Try.func292 (by kernel_rfl) rfl) _ v2 (hidL 4 [] 1) _ _ hs2 (Nat.le_of_ble_eq_true (by kernel_rfl)) hb2.size hb2 HP.out).mono ?_; rintro e w3 ⟨v3, rfl, hs3, hb3⟩))
    go_ret
    exact ⟨_, rfl, Kd.S_lower hs3 HB4.out.size, jB HB4.out hb3⟩
  · rw [if_neg c] at h; cases h


/-! ### impl_Solutions: function 89 -/
def impl_Solutions.f (k : Nat) (l0_0 : List (S58)) : Option ((List (List Int)) × Bool) := (impl_IsPuzzle.f k l0_0).bind fun t429 => (if t429 = true then ((impl_solve.f k l0_0).bind fun t430 => (some (t430, true))) else (some (([] : List (List Int)), false)))
theorem impl_Solutions.calls (k : Nat) (A0_0 : Option Addr) (c0_0 : Nat) (l0_0 : List (S58)) (r1 : List (List Int)) (r2 : Bool) (w : World) (hr0_0 : Kd.C k58 w A0_0 l0_0.length l0_0) (hc0_0 : l0_0.length ≤ c0_0) (h : impl_Solutions.f k l0_0 = some (r1, r2)) :
 Calls Try.prog 89 #[.agg #[.slice A0_0 l0_0.length c0_0]] w fun e w' => ∃ v0_ : Value, e = .returned (.tuple #[v0_, .bool r2]) ∧ Kd.S (Kd.slice 3 (Kd.int .i64)) 24 w' w.heap.size (fun _ => True) v0_ r1 ∧ Below w.heap.size w w' := by
 have hu52 := Try.underlying52
 have HR0_0 := jA hr0_0
 have HC0_0 := jA hc0_0
 clear hr0_0 hc0_0
 have HB := jA (jU w.heap.size w)
 have H := h; unfold impl_Solutions.f at H
 clear h
 replace H := jD H
 obtain ⟨t429, A20, H⟩ := H
 have A2 := jA A20
 clear A20
 replace H := Iw H; rcases H with ⟨rfl, H⟩ | ⟨rfl, H⟩
 · replace H := jD H
   obtain ⟨t430, A40, H⟩ := H
   have A4 := jA A40
   clear A40
   simp only [Option.some.injEq, Prod.mk.injEq] at H
   obtain ⟨rfl, rfl⟩ := H
   go_enter Try.func89, Try.ntmps89
   go_wp2_with (first | ((with_reducible refine gate_dst (N := 1) rfl ?_); refine box_event ?hg (N := 1) ?hd (cs := #[.slice A0_0 l0_0.length c0_0]) (t := 52) ?hr ?_; (case hd => rfl); (case hg => rfl); (case hr => first | (go_simp; done) | (go_simp; rfl)); intro gb428 hg w5 hbox hb; have BK428 := jA (hbox); have GW428 := jA ((by rw [hg]; exact (jL Ub) : w.heap.size ≤ gb428)); have GE428 := jA ((by rw [hg]; exact (jL Ub) : w.heap.size ≤ gb428)); replace HB := jA (jB Ub hb); clear hb hbox hg; have hcz6_0 : w5.cell? ⟨gb428, 0, none⟩ = some (.slice A0_0 l0_0.length c0_0) := (jE BK428.out 0).trans rfl; have hfz6_0 := jF BK428.out 0) | (refine Gl 5 #[.agg #[.slice A0_0 l0_0.length c0_0]] Try.func84 ?_; (with_reducible refine (impl_IsPuzzle.calls k _ _ l0_0 true _ (Cm (jY HR0_0.out HB.out)) HC0_0.out A2.out).mono ?_); rintro e w7 ⟨rfl, hb⟩; refine ⟨_, rfl, ?_⟩; replace BK428 := jA (jN (g := gb428) (o := .cells #[.slice A0_0 l0_0.length c0_0] 52 (0, 0)) (Bm BK428.out) hb); replace HB := jA (jB Ub hb); clear hb; have hcz8_0 : w7.cell? ⟨gb428, 0, none⟩ = some (.slice A0_0 l0_0.length c0_0) := (jE BK428.out 0).trans rfl; have hfz8_0 := jF BK428.out 0) | (refine Gl 9 #[.slice A0_0 l0_0.length c0_0] Try.func225 ?_; (with_reducible refine (impl_solve.calls k _ _ l0_0 t430 _ (Cm (jY HR0_0.out HB.out)) HC0_0.out A4.out).mono ?_); rintro e w9 ⟨v431, rfl, ho0, hb⟩; refine ⟨_, rfl, ?_⟩; have HO432 := jA (Kd.S_lower ho0 (jL Ub)); replace BK428 := jA (jN (g := gb428) (o := .cells #[.slice A0_0 l0_0.length c0_0] 52 (0, 0)) (Bm BK428.out) hb); replace HB := jA (jB Ub hb); clear hb ho0))
   go_ret2
   exact ⟨_, Re, Sm HO432.out, Ub⟩
 simp only [Option.some.injEq, Prod.mk.injEq] at H
 obtain ⟨rfl, rfl⟩ := H
 go_enter Try.func89, Try.ntmps89
 go_wp2_with (first | ((with_reducible refine gate_dst (N := 1) rfl ?_); refine box_event ?hg (N := 1) ?hd (cs := #[.slice A0_0 l0_0.length c0_0]) (t := 52) ?hr ?_; (case hd => rfl); (case hg => rfl); (case hr => first | (go_simp; done) | (go_simp; rfl)); intro gb428 hg w10 hbox hb; have BK428 := jA (hbox); have GW428 := jA ((by rw [hg]; exact (jL Ub) : w.heap.size ≤ gb428)); have GE428 := jA ((by rw [hg]; exact (jL Ub) : w.heap.size ≤ gb428)); replace HB := jA (jB Ub hb); clear hb hbox hg; have hcz11_0 : w10.cell? ⟨gb428, 0, none⟩ = some (.slice A0_0 l0_0.length c0_0) := (jE BK428.out 0).trans rfl; have hfz11_0 := jF BK428.out 0) | (refine Gl 5 #[.agg #[.slice A0_0 l0_0.length c0_0]] Try.func84 ?_; (with_reducible refine (impl_IsPuzzle.calls k _ _ l0_0 false _ (Cm (jY HR0_0.out HB.out)) HC0_0.out A2.out).mono ?_); rintro e w12 ⟨rfl, hb⟩; refine ⟨_, rfl, ?_⟩; replace BK428 := jA (jN (g := gb428) (o := .cells #[.slice A0_0 l0_0.length c0_0] 52 (0, 0)) (Bm BK428.out) hb); replace HB := jA (jB Ub hb); clear hb))
 go_ret2
 exact ⟨_, Re, by first | exact Kd.S_nil _ _ _ _ _ | exact Kd.N_nil _ _ _ _ _ | exact Kd.V_nil _ _ _ _ _ | exact Kd.Q_nil _ _ _ _ _ | exact Kd.R_nil _ _ _ _ _, Ub⟩

/-! ### impl_CountSolutions: function 229 -/
def impl_CountSolutions.f (k : Nat) (l0_0 : List (S58)) : Option (Int × Bool) := (impl_Solutions.f k l0_0).bind fun bt434 => (some ((bt434.1.length : Int), bt434.2))
theorem impl_CountSolutions.calls (k : Nat) (A0_0 : Option Addr) (c0_0 : Nat) (l0_0 : List (S58)) (r1 : Int) (r2 : Bool) (w : World) (hr0_0 : Kd.C k58 w A0_0 l0_0.length l0_0) (hc0_0 : l0_0.length ≤ c0_0) (h : impl_CountSolutions.f k l0_0 = some (r1, r2)) :
 Calls Try.prog 229 #[.agg #[.slice A0_0 l0_0.length c0_0]] w fun e w' => e = .returned (.tuple #[.int .i64 r1, .bool r2]) ∧ Below w.heap.size w w' := by
 have hu52 := Try.underlying52
 have HR0_0 := jA hr0_0
 have HC0_0 := jA hc0_0
 clear hr0_0 hc0_0
 have HB := jA (jU w.heap.size w)
 have H := h; unfold impl_CountSolutions.f at H
 clear h
 replace H := jD H
 obtain ⟨⟨t434, t437⟩, A20, H⟩ := H
 have A2 := jA A20
 clear A20
 simp only [Option.some.injEq, Prod.mk.injEq] at H
 obtain ⟨rfl, rfl⟩ := H
 go_enter Try.func229, Try.ntmps229
 go_wp2_with (first | ((with_reducible refine gate_dst (N := 1) rfl ?_); refine box_event ?hg (N := 1) ?hd (cs := #[.slice A0_0 l0_0.length c0_0]) (t := 52) ?hr ?_; (case hd => rfl); (case hg => rfl); (case hr => first | (go_simp; done) | (go_simp; rfl)); intro gb433 hg w3 hbox hb; have BK433 := jA (hbox); have GW433 := jA ((by rw [hg]; exact (jL Ub) : w.heap.size ≤ gb433)); have GE433 := jA ((by rw [hg]; exact (jL Ub) : w.heap.size ≤ gb433)); replace HB := jA (jB Ub hb); clear hb hbox hg; have hcz4_0 : w3.cell? ⟨gb433, 0, none⟩ = some (.slice A0_0 l0_0.length c0_0) := (jE BK433.out 0).trans rfl; have hfz4_0 := jF BK433.out 0) | (refine Gl 8 #[.agg #[.slice A0_0 l0_0.length c0_0]] Try.func89 ?_; (with_reducible refine (impl_Solutions.calls k _ _ l0_0 t434 t437 _ (Cm (jY HR0_0.out HB.out)) HC0_0.out A2.out).mono ?_); rintro e w5 ⟨v435, rfl, ho0, hb⟩; refine ⟨_, rfl, ?_⟩; have HO436 := jA (Kd.S_lower ho0 (jL Ub)); replace BK433 := jA (jN (g := gb433) (o := .cells #[.slice A0_0 l0_0.length c0_0] 52 (0, 0)) (Bm BK433.out) hb); replace HB := jA (jB Ub hb); clear hb ho0; obtain ⟨Ao6, co6, eo6⟩ := Kd.S_slice HO436.out; subst eo6))
 go_ret2
 exact ⟨Re, Ub⟩

/-! ### impl_IsSolved: function 88 -/
def impl_IsSolved.f (k : Nat) (l0_0 : List (S58)) : Option (Bool × Bool) := (impl_CountSolutions.f k l0_0).bind fun bt439 => (some ((bt439.1 == 1), bt439.2))
theorem impl_IsSolved.calls (k : Nat) (A0_0 : Option Addr) (c0_0 : Nat) (l0_0 : List (S58)) (r1 : Bool) (r2 : Bool) (w : World) (hr0_0 : Kd.C k58 w A0_0 l0_0.length l0_0) (hc0_0 : l0_0.length ≤ c0_0) (h : impl_IsSolved.f k l0_0 = some (r1, r2)) :
 Calls Try.prog 88 #[.agg #[.slice A0_0 l0_0.length c0_0]] w fun e w' => e = .returned (.tuple #[.bool r1, .bool r2]) ∧ Below w.heap.size w w' := by
 have hu52 := Try.underlying52
 have HR0_0 := jA hr0_0
 have HC0_0 := jA hc0_0
 clear hr0_0 hc0_0
 have HB := jA (jU w.heap.size w)
 have H := h; unfold impl_IsSolved.f at H
 clear h
 replace H := jD H
 obtain ⟨⟨t439, t440⟩, A20, H⟩ := H
 have A2 := jA A20
 clear A20
 simp only [Option.some.injEq, Prod.mk.injEq] at H
 obtain ⟨rfl, rfl⟩ := H
 go_enter Try.func88, Try.ntmps88
 go_wp2_with (first | ((with_reducible refine gate_dst (N := 1) rfl ?_); refine box_event ?hg (N := 1) ?hd (cs := #[.slice A0_0 l0_0.length c0_0]) (t := 52) ?hr ?_; (case hd => rfl); (case hg => rfl); (case hr => first | (go_simp; done) | (go_simp; rfl)); intro gb438 hg w3 hbox hb; have BK438 := jA (hbox); have GW438 := jA ((by rw [hg]; exact (jL Ub) : w.heap.size ≤ gb438)); have GE438 := jA ((by rw [hg]; exact (jL Ub) : w.heap.size ≤ gb438)); replace HB := jA (jB Ub hb); clear hb hbox hg; have hcz4_0 : w3.cell? ⟨gb438, 0, none⟩ = some (.slice A0_0 l0_0.length c0_0) := (jE BK438.out 0).trans rfl; have hfz4_0 := jF BK438.out 0) | (refine Gl 8 #[.agg #[.slice A0_0 l0_0.length c0_0]] Try.func229 ?_; (with_reducible refine (impl_CountSolutions.calls k _ _ l0_0 t439 t440 _ (Cm (jY HR0_0.out HB.out)) HC0_0.out A2.out).mono ?_); rintro e w5 ⟨rfl, hb⟩; refine ⟨_, rfl, ?_⟩; replace BK438 := jA (jN (g := gb438) (o := .cells #[.slice A0_0 l0_0.length c0_0] 52 (0, 0)) (Bm BK438.out) hb); replace HB := jA (jB Ub hb); clear hb))
 go_ret2
 exact ⟨Re, Ub⟩

end Go.Proofs.Ytgeoihhibglhgaa.PFnPiecesHidden
