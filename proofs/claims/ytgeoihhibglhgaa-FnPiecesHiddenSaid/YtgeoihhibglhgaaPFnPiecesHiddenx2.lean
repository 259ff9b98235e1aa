-- printed by wip/xp
import Derived.Test.YtgeoihhibglhgaaPFnPiecesHiddenx0
set_option maxHeartbeats 8000000
set_option maxRecDepth 100000
namespace Go.Proofs.Ytgeoihhibglhgaa.PFnPiecesHidden
open Go.RowKit Go.Proofs.YtgeoihhibglhgaaW.PrintWords Go.Proofs.YtgeoihhibglhgaaW.PrintLast Go.Proofs.YtgeoihhibglhgaaW.PrintMore Go.Proofs.Ytgeoihhibglhgaa.Xmv
attribute [local go_sem] max2_int min2_int max_two min_two max_three min_three max_four min_four
set_option linter.unusedVariables false
set_option linter.unusedSimpArgs false

/-! ### laws_big: function 10 -/
def laws_big.f (l0 : List Int) (l1 : List Int) : Option (Bool) := if (l0.length : Int) > 1048576 then (some true) else (some (decide ((l1.length : Int) > (wrap64 (1048576 - (l0.length : Int))))))
theorem laws_big.calls (A0 : Option Addr) (c0 : Nat) (l0 : List Int) (A1 : Option Addr) (c1 : Nat) (l1 : List Int) (r : Bool) (w : World) (hr0 : Kd.C (Kd.int .u8) w A0 l0.length l0) (hc0 : l0.length ≤ c0) (hr1 : Kd.C (Kd.int .u8) w A1 l1.length l1) (hc1 : l1.length ≤ c1) (h : laws_big.f l0 l1 = some r) :
 Calls Try.prog 10 #[.slice A0 l0.length c0, .slice A1 l1.length c1] w fun e w' => e = .returned (.bool r) ∧ Drawn0 w w' := by
 have HR0 := jA hr0
 have HC0 := jA hc0
 clear hr0 hc0
 have HR1 := jA hr1
 have HC1 := jA hc1
 clear hr1 hc1
 have H := h; unfold laws_big.f at H
 clear h
 replace H := Ic H; rcases H with ⟨c3, H⟩ | ⟨c3, H⟩
 · have c3b0 : decide (1048576 < (l0.length : Int)) = true := jK c3
   have c3b1 : decide (1048576 < l0.length) = true := jK (by omega)
   clear c3
   obtain rfl := jM H
   go_enter Try.func10, Try.ntmps10
   go_wp2
   go_ret
   exact ⟨Rs, Dr⟩
 have c3b0 : decide (1048576 < (l0.length : Int)) = false := jV c3
 have c3b1 : decide (1048576 < l0.length) = false := jV (by omega)
 clear c3
 obtain rfl := jM H
 go_enter Try.func10, Try.ntmps10
 go_wp2
 go_ret
 exact ⟨Rs, Dr⟩

/-! ### slices_IndexFunc_int_int_296: function 296 -/
-- GIVEN slices.IndexFunc[[]int,int] raw=1
/-- The first index at which p holds, or -1. -/
def gIdx (p : Int → Bool) (l : List Int) : Int := match l.findIdx? p with | some i => (i : Int) | none => -1
theorem gIdx_hit (p : Int → Bool) (l : List Int) (i : Int) (h0 : 0 ≤ i) (h1 : i < l.length) (hp : p (rd l i) = true) (hn : ∀ j : Int, 0 ≤ j → j < i → p (rd l j) = false) : gIdx p l = i := by
  have hl : i.toNat < l.length := by omega
  have e : l.findIdx? p = some i.toNat := by
    rw [List.findIdx?_eq_some_iff_getElem]
    refine ⟨hl, ?_, ?_⟩
    · have : rd l i = l[i.toNat] := by simp [rd, List.getD_eq_getElem?_getD, List.getElem?_eq_getElem hl]
      rw [← this]; exact hp
    · intro j hj
      have := hn (j : Int) (by omega) (by omega)
      have e2 : rd l (j : Int) = l[j] := by simp [rd, List.getD_eq_getElem?_getD, List.getElem?_eq_getElem (show j < l.length by omega)]
      rw [e2] at this
      simp [this]
  simp only [gIdx, e]; omega
theorem gIdx_miss (p : Int → Bool) (l : List Int) (hn : ∀ j : Int, 0 ≤ j → j < l.length → p (rd l j) = false) : gIdx p l = -1 := by
  have e : l.findIdx? p = none := by
    rw [List.findIdx?_eq_none_iff]
    intro x hx
    obtain ⟨j, hj, rfl⟩ := List.getElem_of_mem hx
    have := hn (j : Int) (by omega) (by omega)
    have e2 : rd l (j : Int) = l[j] := by simp [rd, List.getD_eq_getElem?_getD, List.getElem?_eq_getElem hj]
    rw [e2] at this
    exact this
  simp only [gIdx, e]

theorem gIdx_any (p : Int → Bool) (l : List Int) : l.any p = decide (0 ≤ gIdx p l) := by
  unfold gIdx
  cases h : l.findIdx? p with
  | none =>
    rw [List.findIdx?_eq_none_iff] at h
    simp only [show ¬ ((0 : Int) ≤ -1) by omega, decide_false, List.any_eq_false]
    intro x hx; simp [h x hx]
  | some i =>
    obtain ⟨h1, h2, _⟩ := List.findIdx?_eq_some_iff_getElem.1 h
    simp only [show (0 : Int) ≤ (i : Int) by omega, decide_true, List.any_eq_true]
    exact ⟨_, List.getElem_mem h1, h2⟩

def PredI (g : Nat) (lb : Array Value) (p : Int → Bool) (w : World) : Prop :=
  ∀ (W : World) (x : Int), Below w.heap.size w W → Calls Try.prog g (#[.int .i64 x] ++ lb) W fun e w' => e = .returned (.bool (p x)) ∧ Below w.heap.size w w'

set_option maxHeartbeats 2000000 in
theorem indexFunc_int (p : Int → Bool) (g : Nat) (lb : Array Value) (eg : ∀ args w, (callFunc g args).run Try.prog w = .ok (.enter g args) w) (A0 : Option Addr) (c0 : Nat) (l0 : List Int) (w : World) (hr0 : Kd.C (Kd.int .i64) w A0 l0.length l0) (hc0 : l0.length ≤ c0)
    (hp : PredI g lb p w) :
    Calls Try.prog 296 #[.slice A0 l0.length c0, .func (.func g) #[] lb] w fun e w' => e = .returned (.int .i64 (gIdx p l0)) ∧ Below w.heap.size w w' := by
  have HR0 := jA hr0
  have HC0 := jA hc0
  have hbig : l0.length ≤ 9223372036854775807 := hr0.2.1
  clear hr0 hc0
  go_enter Try.func296, Try.ntmps296
  go_wp2
  go_loopg [5, 8] l0.length (fun gg _ s8 wr => ∃ kk : Int, s8 = .int .i64 kk ∧ Aside0 (0 ≤ kk ∧ kk ≤ l0.length ∧ l0.length - kk ≤ gg) ∧ Aside0 (Below w.heap.size w wr) ∧ Aside0 (∀ j : Int, 0 ≤ j → j < kk → p (rd l0 j) = false))
  case atStart => exact ⟨0, by simp, ⟨by omega⟩, ⟨jU _ w⟩, ⟨fun j hj hj' => by omega⟩⟩
  case round =>
    obtain ⟨kk, rfl, HK, HB, HA⟩ := hrel
    have ⟨hk0, hk1, hk2⟩ := HK.out
    by_cases hlt : kk < (l0.length : Int)
    · have hcall := hp wr (rd l0 kk) HB.out
      obtain ⟨ad, e1, hx⟩ := Kd.at_int (jY HR0.out HB.out) kk hk0 hlt
      cases e1
      have hlt0 := jK hlt
      have hlt1 := eq_true hlt
      have hk01 := eq_true hk0
      cases hq : p (rd l0 kk) with
      | true =>
        rw [hq] at hcall
        have HQ := jA hq
        clear hq hp hk2 hk1
        go_wp2_with (go_at_fn g; refine hcall.mono ?_; rintro e w' ⟨rfl, hb'⟩)
        go_ret
        exact ⟨by rw [gIdx_hit p l0 kk hk0 hlt HQ.out HA.out]; rfl, hb'⟩
      | false =>
        rw [hq] at hcall
        have HQ := jA hq
        clear hq hp hk2 hk1
        go_wp2_with (go_at_fn g; refine hcall.mono ?_; rintro e w' ⟨rfl, hb'⟩)
        go_roundg (gk - 1)
        case measure => have := HK.out; omega
        case rel =>
          have hK := HK.out
          refine ⟨kk + 1, (by first | rfl | rw [show wrap64 (kk + 1) = kk + 1 by unfold wrap64; omega]), ⟨by omega⟩, ⟨hb'⟩, ⟨fun j h0 h1 => ?_⟩⟩
          by_cases e : j = kk
          · rw [e]; exact HQ.out
          · exact HA.out j h0 (by omega)
    · have hlt0 := jV hlt
      have hlt1 := eq_false hlt
      clear hp hk2
      go_wp2
      go_ret
      exact ⟨by rw [gIdx_miss p l0 (fun j h0 h1 => HA.out j h0 (by omega))]; rfl, HB.out⟩



/-! ### slices_ContainsFunc_int_int: function 275 -/
-- GIVEN slices.ContainsFunc[[]int,int] raw=1
theorem containsFunc_int (p : Int → Bool) (g : Nat) (lb : Array Value) (eg : ∀ args w, (callFunc g args).run Try.prog w = .ok (.enter g args) w) (A0 : Option Addr) (c0 : Nat) (l0 : List Int) (w : World) (hr0 : Kd.C (Kd.int .i64) w A0 l0.length l0) (hc0 : l0.length ≤ c0)
    (hp : PredI g lb p w) :
    Calls Try.prog 275 #[.slice A0 l0.length c0, .func (.func g) #[] lb] w fun e w' => e = .returned (.bool (l0.any p)) ∧ Below w.heap.size w w' := by
  go_enter Try.func275, Try.ntmps275
  go_wp2_with (go_at_call 296; refine (indexFunc_int p g lb eg A0 c0 l0 _ hr0 hc0 hp).mono ?_; rintro e w' ⟨rfl, hb'⟩)
  go_ret
  exact ⟨by rw [gIdx_any]; rfl, hb'⟩



/-! ### impl_areWithin: function 178 -/
-- GIVEN loop.example/g01305/impl.areWithin
theorem within_closure (x lo hi : Int) (aL aH : Addr) (w : World) (hL : w.cell? aL = some (.int .i64 lo)) (hH : w.cell? aH = some (.int .i64 hi)) :
    Calls Try.prog 276 #[.int .i64 x, .pointer (some aL), .pointer (some aH)] w fun e w' => e = .returned (.bool (!(decide (lo ≤ x) && decide (x ≤ hi)))) ∧ w = w' := by
  by_cases h1 : lo ≤ x
  · have e1 : decide (lo ≤ x) = true := jK h1
    by_cases h2 : x ≤ hi
    · have e2 : decide (x ≤ hi) = true := jK h2
      go_enter Try.func276, Try.ntmps276
      go_wp2
      go_ret
      exact ⟨by first | (simp; done) | (simp; omega), rfl⟩
    · have e2 : decide (x ≤ hi) = false := jV h2
      go_enter Try.func276, Try.ntmps276
      go_wp2
      go_ret
      exact ⟨by first | (simp; done) | (simp; omega), rfl⟩
  · have e1 : decide (lo ≤ x) = false := jV h1
    go_enter Try.func276, Try.ntmps276
    go_wp2
    go_ret
    exact ⟨by first | (simp; done) | (simp; omega), rfl⟩

def impl_areWithin.f (l0 : List Int) (a1 : Int) (a2 : Int) : Option (Bool) := some (l0.all fun x => decide (a1 ≤ x) && decide (x ≤ a2))
theorem impl_areWithin.calls (A0 : Option Addr) (c0 : Nat) (l0 : List Int) (a1 : Int) (a2 : Int) (r : Bool) (w : World) (hr0 : Kd.C (Kd.int .i64) w A0 l0.length l0) (hc0 : l0.length ≤ c0) (h : impl_areWithin.f l0 a1 a2 = some r) :
    Calls Try.prog 178 #[.slice A0 l0.length c0, .int .i64 a1, .int .i64 a2] w fun e w' => e = .returned (.bool r) ∧ Below w.heap.size w w' := by
  obtain rfl := jM h
  clear h
  have HR0 := jA hr0
  have hmf : ∀ (fn : Fn) (first cap : Array Value) (w : World), (Instr.makeFunc fn first cap).run Try.prog w = .ok (.func fn first cap) w := fun _ _ _ _ => rfl
  have hp : PredI 276 #[.pointer (some ⟨w.heap.size, 0, none⟩), .pointer (some ⟨w.heap.size + 1, 0, none⟩)] (fun x => !(decide (a1 ≤ x) && decide (x ≤ a2))) ((w.alloc (.cells #[.int .i64 a1] 3)).alloc (.cells #[.int .i64 a2] 3)) := by
    intro W x hb
    have c1 : W.cell? ⟨w.heap.size, 0, none⟩ = some (.int .i64 a1) := by rw [hb.cell (p := ⟨w.heap.size, 0, none⟩) (by simp; omega)]; simp
    have c2 : W.cell? ⟨w.heap.size + 1, 0, none⟩ = some (.int .i64 a2) := by rw [hb.cell (p := ⟨w.heap.size + 1, 0, none⟩) (by simp)]; simp
    refine (within_closure x a1 a2 _ _ W c1 c2).mono ?_
    rintro e w' ⟨rfl, rfl⟩
    exact ⟨rfl, hb⟩
  have hP := jA hp
  clear hp
  go_enter Try.func178, Try.ntmps178
  go_wp2_with (go_at_call 275; refine (containsFunc_int _ 276 _ (enters_of Try.func276 (by kernel_rfl) rfl) A0 c0 l0 _ (jY (jY HR0.out ((jU _ _).alloc (jX _) _)) ((jU _ _).alloc (jX _) _)) hc0 hP.out).mono ?_; rintro e w' ⟨rfl, hb'⟩)
  go_ret
  refine ⟨?_, ?_⟩
  · first | rfl | (congr 2; rw [List.any_eq_not_all_not]; simp)
  · exact (((jU _ _).alloc (jX _) _).alloc (by simp) _).trans (hb'.mono (by simp; omega))


/-! ### cmp_isNaN_int: function 311 -/
def cmp_isNaN_int.f (a0 : Int) : Option (Bool) := some (a0 != a0)
theorem cmp_isNaN_int.calls (a0 : Int) (r : Bool) (w : World) (h : cmp_isNaN_int.f a0 = some r) :
 Calls Try.prog 311 #[.int .i64 a0] w fun e w' => e = .returned (.bool r) ∧ Drawn0 w w' := by
 have H := h; unfold cmp_isNaN_int.f at H
 clear h
 obtain rfl := jM H
 go_enter Try.func311, Try.ntmps311
 go_wp2
 go_ret
 exact ⟨Rs, Dr⟩

/-! ### cmp_Less_int: function 281 -/
def cmp_Less_int.f (a0 : Int) (a1 : Int) : Option (Bool) := (cmp_isNaN_int.f a0).bind fun t101 => (if t101 = true then ((cmp_isNaN_int.f a1).bind fun t102 => (if t102 = true then (some (decide (a0 < a1))) else (some true))) else (some (decide (a0 < a1))))
theorem cmp_Less_int.calls (a0 : Int) (a1 : Int) (r : Bool) (w : World) (h : cmp_Less_int.f a0 a1 = some r) :
 Calls Try.prog 281 #[.int .i64 a0, .int .i64 a1] w fun e w' => e = .returned (.bool r) ∧ Drawn0 w w' := by
 have H := h; unfold cmp_Less_int.f at H
 clear h
 replace H := jD H
 obtain ⟨t101, A30, H⟩ := H
 have A3 := jA A30
 clear A30
 replace H := Iw H; rcases H with ⟨rfl, H⟩ | ⟨rfl, H⟩
 · replace H := jD H
   obtain ⟨t102, A50, H⟩ := H
   have A5 := jA A50
   clear A50
   replace H := Iw H; rcases H with ⟨rfl, H⟩ | ⟨rfl, H⟩
   · obtain rfl := jM H
     go_enter Try.func281, Try.ntmps281
     go_wp2_with (first | (refine Gl 6 #[.int .i64 a0] Try.func311 ?_; (with_reducible refine (cmp_isNaN_int.calls a0 true _ A3.out).mono ?_); rintro e w' ⟨rfl, ⟨nd, rfl⟩⟩; refine ⟨_, rfl, ?_⟩) | (go_at_call 311; (with_reducible refine (cmp_isNaN_int.calls a1 true _ A5.out).mono ?_); rintro e w' ⟨rfl, ⟨nd, rfl⟩⟩))
     go_ret
     exact ⟨Rs, Dr⟩
   obtain rfl := jM H
   go_enter Try.func281, Try.ntmps281
   go_wp2_with (first | (refine Gl 6 #[.int .i64 a0] Try.func311 ?_; (with_reducible refine (cmp_isNaN_int.calls a0 true _ A3.out).mono ?_); rintro e w' ⟨rfl, ⟨nd, rfl⟩⟩; refine ⟨_, rfl, ?_⟩) | (go_at_call 311; (with_reducible refine (cmp_isNaN_int.calls a1 false _ A5.out).mono ?_); rintro e w' ⟨rfl, ⟨nd, rfl⟩⟩))
   go_ret
   exact ⟨Rs, Dr⟩
 obtain rfl := jM H
 go_enter Try.func281, Try.ntmps281
 go_wp2_with (first | (refine Gl 6 #[.int .i64 a0] Try.func311 ?_; (with_reducible refine (cmp_isNaN_int.calls a0 false _ A3.out).mono ?_); rintro e w' ⟨rfl, ⟨nd, rfl⟩⟩; refine ⟨_, rfl, ?_⟩))
 go_ret
 exact ⟨Rs, Dr⟩

/-! ### slices_IsSorted_int_int: function 206 -/
def slices_IsSorted_int_int.l0 : Nat → List Int → Int → Option (Bool)
 | 0, _, _ => none
 | k + 1, x0, x3 => if x3 > 0 then (if 0 ≤ x3 then (if x3 < (x0.length : Int) then (if 0 ≤ (wrap64 (x3 - 1)) then (if (wrap64 (x3 - 1)) < (x0.length : Int) then ((cmp_Less_int.f (rd x0 x3) (rd x0 (wrap64 (x3 - 1)))).bind fun t105 => (if t105 = true then (some false) else (slices_IsSorted_int_int.l0 k x0 (wrap64 (x3 - 1))))) else (none)) else (none)) else (none)) else (none)) else (some true)
def slices_IsSorted_int_int.f (k : Nat) (l0 : List Int) : Option (Bool) := slices_IsSorted_int_int.l0 k l0 (wrap64 ((l0.length : Int) - 1))
theorem slices_IsSorted_int_int.calls (k : Nat) (A0 : Option Addr) (c0 : Nat) (l0 : List Int) (r : Bool) (w : World) (hr0 : Kd.C (Kd.int .i64) w A0 l0.length l0) (hc0 : l0.length ≤ c0) (h : slices_IsSorted_int_int.f k l0 = some r) :
 Calls Try.prog 206 #[.slice A0 l0.length c0] w fun e w' => e = .returned (.bool r) ∧ Drawn0 w w' := by
 have HR0 := jA hr0
 have HC0 := jA hc0
 clear hr0 hc0
 have H := h; unfold slices_IsSorted_int_int.f at H
 clear h
 have H' := jA H
 clear H
 go_enter Try.func206, Try.ntmps206
 go_wp2
 repeat (go_quiet (fail); try go_wp2)
 go_loopg [3] k (fun kq v3 w' => ∃ (x3_1 : Int), v3 = .int .i64 x3_1 ∧ Aside0 (slices_IsSorted_int_int.l0 kq l0 x3_1 = some r) ∧ Aside0 (kq ≤ k) ∧ Drawn0 w w')
 case atStart => exact ⟨(wrap64 ((l0.length : Int) - 1)), Rs, H', ⟨jX _⟩, Dr⟩
 case round =>
  clear H'
  obtain ⟨x3_1, rfl, HA, HK1, ⟨m1, rfl⟩⟩ := hrel
  cases gk with
  | zero => exact absurd HA.out (by simp [slices_IsSorted_int_int.l0])
  | succ k1 =>
   have H := HA.out
   clear HA
   simp only [slices_IsSorted_int_int.l0] at H
   replace H := Ic H; rcases H with ⟨c2, H⟩ | ⟨c2, H⟩
   · have c2b0 : decide (0 < x3_1) = true := jK c2
     clear c2
     replace H := Ip H; obtain ⟨c3, H⟩ := H
     have c3b0 := jK c3
     clear c3
     replace H := Ip H; obtain ⟨c4, H⟩ := H
     have c4b0 := jK c4
     clear c4
     obtain ⟨ji5, hji5⟩ : ∃ j_ : Int, (wrap64 (x3_1 - 1)) = j_ := ⟨_, rfl⟩
     replace H : (if 0 ≤ (ji5) then (if (ji5) < (l0.length : Int) then ((cmp_Less_int.f (rd l0 x3_1) (rd l0 (ji5))).bind fun t105 => (if t105 = true then (some false) else (slices_IsSorted_int_int.l0 k1 l0 ji5))) else (none)) else (none)) = some r := by first | (rw [hji5] at H; exact H) | (simp only [hji5] at H ⊢; exact H)
     have hji5w : (IntKind.i64.wrap (x3_1 - 1)) = ji5 := (i64_w _).trans hji5
     replace H := Ip H; obtain ⟨c6, H⟩ := H
     have c6b0 := jK c6
     clear c6
     replace H := Ip H; obtain ⟨c7, H⟩ := H
     have c7b0 := jK c7
     clear c7
     replace H := jD H
     obtain ⟨t105, A80, H⟩ := H
     have A8 := jA A80
     clear A80
     replace H := Iw H; rcases H with ⟨rfl, H⟩ | ⟨rfl, H⟩
     · obtain rfl := jM H
       obtain ⟨p103, q103, ad103, e103, hx103_0⟩ := Ai HR0.out x3_1
       cases e103
       have p104 : 0 ≤ ((ji5) : Int) := Oa
       have q104 : (ji5) < (l0.length : Int) := Oa
       obtain ⟨ad104, e104, hx104_0⟩ := Kd.at_int HR0.out (ji5) p104 q104
       obtain rfl : ad103 = ad104 := (by injection e104)
       replace p104 := eq_true p104
       replace q104 := eq_true q104
       go_wp2_with (first | (go_at_call 281; (with_reducible refine (cmp_Less_int.calls (rd l0 x3_1) (rd l0 (ji5)) true _ A8.out).mono ?_); rintro e w' ⟨rfl, ⟨nd, rfl⟩⟩; (try first | exact ⟨rfl, _, World.drewN_drewN _ _ _⟩ | exact ⟨rfl, _, Eq.trans (World.drewN_drewN _ _ _) (congrArg (World.drewN _) (Nat.add_assoc _ _ _))⟩)))
       repeat (go_quiet (first | (go_at_call 281; (with_reducible refine (cmp_Less_int.calls (rd l0 x3_1) (rd l0 (ji5)) true _ A8.out).mono ?_); rintro e w' ⟨rfl, ⟨nd, rfl⟩⟩; (try first | exact ⟨rfl, _, World.drewN_drewN _ _ _⟩ | exact ⟨rfl, _, Eq.trans (World.drewN_drewN _ _ _) (congrArg (World.drewN _) (Nat.add_assoc _ _ _))⟩))); try go_wp2_with (first | (go_at_call 281; (with_reducible refine (cmp_Less_int.calls (rd l0 x3_1) (rd l0 (ji5)) true _ A8.out).mono ?_); rintro e w' ⟨rfl, ⟨nd, rfl⟩⟩; (try first | exact ⟨rfl, _, World.drewN_drewN _ _ _⟩ | exact ⟨rfl, _, Eq.trans (World.drewN_drewN _ _ _) (congrArg (World.drewN _) (Nat.add_assoc _ _ _))⟩))))
       go_ret
       exact ⟨by first | rfl | (simp; done) | (simp only [← hji5] <;> (first | rfl | simp)) | (simp [*]; done), Dr⟩
     have H' := jA H
     clear H
     obtain ⟨p103, q103, ad103, e103, hx103_0⟩ := Ai HR0.out x3_1
     cases e103
     have p104 : 0 ≤ ((ji5) : Int) := Oa
     have q104 : (ji5) < (l0.length : Int) := Oa
     obtain ⟨ad104, e104, hx104_0⟩ := Kd.at_int HR0.out (ji5) p104 q104
     obtain rfl : ad103 = ad104 := (by injection e104)
     replace p104 := eq_true p104
     replace q104 := eq_true q104
     go_wp2_with (first | (go_at_call 281; (with_reducible refine (cmp_Less_int.calls (rd l0 x3_1) (rd l0 (ji5)) false _ A8.out).mono ?_); rintro e w' ⟨rfl, ⟨nd, rfl⟩⟩; (try first | exact ⟨rfl, _, World.drewN_drewN _ _ _⟩ | exact ⟨rfl, _, Eq.trans (World.drewN_drewN _ _ _) (congrArg (World.drewN _) (Nat.add_assoc _ _ _))⟩)))
     repeat (go_quiet (first | (go_at_call 281; (with_reducible refine (cmp_Less_int.calls (rd l0 x3_1) (rd l0 (ji5)) false _ A8.out).mono ?_); rintro e w' ⟨rfl, ⟨nd, rfl⟩⟩; (try first | exact ⟨rfl, _, World.drewN_drewN _ _ _⟩ | exact ⟨rfl, _, Eq.trans (World.drewN_drewN _ _ _) (congrArg (World.drewN _) (Nat.add_assoc _ _ _))⟩))); try go_wp2_with (first | (go_at_call 281; (with_reducible refine (cmp_Less_int.calls (rd l0 x3_1) (rd l0 (ji5)) false _ A8.out).mono ?_); rintro e w' ⟨rfl, ⟨nd, rfl⟩⟩; (try first | exact ⟨rfl, _, World.drewN_drewN _ _ _⟩ | exact ⟨rfl, _, Eq.trans (World.drewN_drewN _ _ _) (congrArg (World.drewN _) (Nat.add_assoc _ _ _))⟩))))
     go_roundg k1
     case measure => have := HK1.out; omega
     case rel => exact ⟨(ji5), (by first | rfl | (simp; done) | (simp only [← hji5] <;> (first | rfl | simp)) | (simp [*]; done)), H', ⟨by have := HK1.out; omega⟩, Dr⟩
   have c2b0 : decide (0 < x3_1) = false := jV c2
   clear c2
   obtain rfl := jM H
   go_wp2
   repeat (go_quiet (fail); try go_wp2)
   go_ret
   exact ⟨Rs, Dr⟩

/-! ### impl_ArePieces: function 63 -/
def impl_ArePieces.f (k : Nat) (l0 : List Int) : Option (Bool) := if (l0.length : Int) ≤ 20 then ((impl_areWithin.f l0 1 10000).bind fun t106 => (if t106 = true then ((slices_IsSorted_int_int.f k l0).bind fun t107 => (some t107)) else (some false))) else (some false)
theorem impl_ArePieces.calls (k : Nat) (A0 : Option Addr) (c0 : Nat) (l0 : List Int) (r : Bool) (w : World) (hr0 : Kd.C (Kd.int .i64) w A0 l0.length l0) (hc0 : l0.length ≤ c0) (h : impl_ArePieces.f k l0 = some r) :
 Calls Try.prog 63 #[.slice A0 l0.length c0] w fun e w' => e = .returned (.bool r) ∧ Below w.heap.size w w' := by
 have HR0 := jA hr0
 have HC0 := jA hc0
 clear hr0 hc0
 have HB := jA (jU w.heap.size w)
 have H := h; unfold impl_ArePieces.f at H
 clear h
 replace H := Ic H; rcases H with ⟨c2, H⟩ | ⟨c2, H⟩
 · have c2b0 := jK c2
   have c2b1 : decide (l0.length ≤ 20) = true := jK (by omega)
   clear c2
   replace H := jD H
   obtain ⟨t106, A30, H⟩ := H
   have A3 := jA A30
   clear A30
   replace H := Iw H; rcases H with ⟨rfl, H⟩ | ⟨rfl, H⟩
   · replace H := jD H
     obtain ⟨t107, A50, H⟩ := H
     have A5 := jA A50
     clear A50
     obtain rfl := jM H
     go_enter Try.func63, Try.ntmps63
     go_wp2_with (first | (go_at_call 178; (with_reducible refine (impl_areWithin.calls _ _ l0 1 10000 true _ (Cm HR0.out) HC0.out A3.out).mono ?_); rintro e w6 ⟨rfl, hb⟩; replace HB := jA (jB Ub hb); clear hb) | (go_at_call 206; (with_reducible refine (slices_IsSorted_int_int.calls k _ _ l0 t107 _ (Cm (jY HR0.out HB.out)) HC0.out A5.out).mono ?_); rintro e w' ⟨rfl, ⟨nd, rfl⟩⟩))
     go_ret
     exact ⟨Re, Ub⟩
   obtain rfl := jM H
   go_enter Try.func63, Try.ntmps63
   go_wp2_with (first | (go_at_call 178; (with_reducible refine (impl_areWithin.calls _ _ l0 1 10000 false _ (Cm HR0.out) HC0.out A3.out).mono ?_); rintro e w7 ⟨rfl, hb⟩; replace HB := jA (jB Ub hb); clear hb))
   go_ret
   exact ⟨Re, Ub⟩
 have c2b0 := jV c2
 have c2b1 : decide (l0.length ≤ 20) = false := jV (by omega)
 clear c2
 obtain rfl := jM H
 go_enter Try.func63, Try.ntmps63
 go_wp2
 go_ret
 exact ⟨Re, Ub⟩

/-! ### impl_run: function 199 -/
def impl_run.l0 : Nat → Int → List Int → Int → Int → Option (Int)
 | 0, _, _, _, _ => none
 | k + 1, x3, x6, x7, x8 => if x8 < x7 then (if 0 ≤ x8 then (if x8 < (x6.length : Int) then (if (rd x6 x8) > (wrap64 (x3 + 1)) then (some x3) else (impl_run.l0 k (wrap64 (x3 + (rd x6 x8))) x6 x7 (wrap64 (x8 + 1)))) else (none)) else (none)) else (some x3)
def impl_run.f (k : Nat) (l0 : List Int) : Option (Int) := impl_run.l0 k 0 l0 (l0.length : Int) 0
theorem impl_run.calls (k : Nat) (A0 : Option Addr) (c0 : Nat) (l0 : List Int) (r : Int) (w : World) (hr0 : Kd.C (Kd.int .i64) w A0 l0.length l0) (hc0 : l0.length ≤ c0) (h : impl_run.f k l0 = some r) :
 Calls Try.prog 199 #[.slice A0 l0.length c0] w fun e w' => e = .returned (.int .i64 r) ∧ Drawn0 w w' := by
 have HR0 := jA hr0
 have HC0 := jA hc0
 clear hr0 hc0
 have H := h; unfold impl_run.f at H
 clear h
 have H' := jA H
 clear H
 go_enter Try.func199, Try.ntmps199
 go_wp2
 go_loopg [3, 8] k (fun kq v3 v8 w' => ∃ (x3_1 : Int) (x8_1 : Int), v3 = .int .i64 x3_1 ∧ v8 = .int .i64 x8_1 ∧ Aside0 (impl_run.l0 kq x3_1 l0 (l0.length : Int) x8_1 = some r) ∧ Aside0 (kq ≤ k) ∧ Drawn0 w w')
 case atStart => exact ⟨(0), (0), Rs, Rs, H', ⟨jX _⟩, Dr⟩
 case round =>
  clear H'
  obtain ⟨x3_1, x8_1, rfl, rfl, HA, HK1, ⟨m1, rfl⟩⟩ := hrel
  cases gk with
  | zero => exact absurd HA.out (by simp [impl_run.l0])
  | succ k1 =>
   have H := HA.out
   clear HA
   simp only [impl_run.l0] at H
   replace H := Ic H; rcases H with ⟨c2, H⟩ | ⟨c2, H⟩
   · have c2b0 := jK c2
     clear c2
     replace H := Ip H; obtain ⟨c3, H⟩ := H
     have c3b0 := jK c3
     clear c3
     replace H := Ip H; obtain ⟨c4, H⟩ := H
     have c4b0 := jK c4
     clear c4
     replace H := Ic H; rcases H with ⟨c5, H⟩ | ⟨c5, H⟩
     · have c5b0 : decide ((wrap64 (x3_1 + 1)) < (rd l0 x8_1)) = true := jK c5
       clear c5
       obtain rfl := jM H
       obtain ⟨p108, q108, ad108, e108, hx108_0⟩ := Ai HR0.out x8_1
       cases e108
       go_wp2
       go_ret
       exact ⟨Rs, Dr⟩
     have c5b0 : decide ((wrap64 (x3_1 + 1)) < (rd l0 x8_1)) = false := jV c5
     clear c5
     have H' := jA H
     clear H
     obtain ⟨p108, q108, ad108, e108, hx108_0⟩ := Ai HR0.out x8_1
     cases e108
     go_wp2
     go_roundg k1
     case measure => have := HK1.out; omega
     case rel => exact ⟨(wrap64 (x3_1 + (rd l0 x8_1))), (wrap64 (x8_1 + 1)), Rs, Rs, H', ⟨by have := HK1.out; omega⟩, Dr⟩
   have c2b0 := jV c2
   clear c2
   obtain rfl := jM H
   go_wp2
   go_ret
   exact ⟨Rs, Dr⟩

/-! ### impl_RunOf: function 55 -/
def impl_RunOf.f (k : Nat) (l0 : List Int) : Option (Int × Bool) := (impl_ArePieces.f k l0).bind fun t109 => (if t109 = true then ((impl_run.f k l0).bind fun t110 => (some (t110, true))) else (some (0, false)))
theorem impl_RunOf.calls (k : Nat) (A0 : Option Addr) (c0 : Nat) (l0 : List Int) (r1 : Int) (r2 : Bool) (w : World) (hr0 : Kd.C (Kd.int .i64) w A0 l0.length l0) (hc0 : l0.length ≤ c0) (h : impl_RunOf.f k l0 = some (r1, r2)) :
 Calls Try.prog 55 #[.slice A0 l0.length c0] w fun e w' => e = .returned (.tuple #[.int .i64 r1, .bool r2]) ∧ Below w.heap.size w w' := by
 have HR0 := jA hr0
 have HC0 := jA hc0
 clear hr0 hc0
 have HB := jA (jU w.heap.size w)
 have H := h; unfold impl_RunOf.f at H
 clear h
 replace H := jD H
 obtain ⟨t109, A20, H⟩ := H
 have A2 := jA A20
 clear A20
 replace H := Iw H; rcases H with ⟨rfl, H⟩ | ⟨rfl, H⟩
 · replace H := jD H
   obtain ⟨t110, A40, H⟩ := H
   have A4 := jA A40
   clear A40
   simp only [Option.some.injEq, Prod.mk.injEq] at H
   obtain ⟨rfl, rfl⟩ := H
   go_enter Try.func55, Try.ntmps55
   go_wp2_with (first | (refine Gl 5 #[.slice A0 l0.length c0] Try.func63 ?_; (with_reducible refine (impl_ArePieces.calls k _ _ l0 true _ (Cm HR0.out) HC0.out A2.out).mono ?_); rintro e w5 ⟨rfl, hb⟩; refine ⟨_, rfl, ?_⟩; replace HB := jA (jB Ub hb); clear hb) | (refine Gl 8 #[.slice A0 l0.length c0] Try.func199 ?_; (with_reducible refine (impl_run.calls k _ _ l0 t110 _ (Cm (jY HR0.out HB.out)) HC0.out A4.out).mono ?_); rintro e w' ⟨rfl, ⟨nd, rfl⟩⟩; refine ⟨_, rfl, ?_⟩))
   go_ret2
   exact ⟨Re, Ub⟩
 simp only [Option.some.injEq, Prod.mk.injEq] at H
 obtain ⟨rfl, rfl⟩ := H
 go_enter Try.func55, Try.ntmps55
 go_wp2_with (first | (refine Gl 5 #[.slice A0 l0.length c0] Try.func63 ?_; (with_reducible refine (impl_ArePieces.calls k _ _ l0 false _ (Cm HR0.out) HC0.out A2.out).mono ?_); rintro e w6 ⟨rfl, hb⟩; refine ⟨_, rfl, ?_⟩; replace HB := jA (jB Ub hb); clear hb))
 go_ret2
 exact ⟨Re, Ub⟩

/-! ### impl_total: function 185 -/
def impl_total.l0 : Nat → Int → List Int → Int → Int → Option (Int)
 | 0, _, _, _, _ => none
 | k + 1, x3, x6, x7, x8 => if x8 < x7 then (if 0 ≤ x8 then (if x8 < (x6.length : Int) then (impl_total.l0 k (wrap64 (x3 + (rd x6 x8))) x6 x7 (wrap64 (x8 + 1))) else (none)) else (none)) else (some x3)
def impl_total.f (k : Nat) (l0 : List Int) : Option (Int) := impl_total.l0 k 0 l0 (l0.length : Int) 0
theorem impl_total.calls (k : Nat) (A0 : Option Addr) (c0 : Nat) (l0 : List Int) (r : Int) (w : World) (hr0 : Kd.C (Kd.int .i64) w A0 l0.length l0) (hc0 : l0.length ≤ c0) (h : impl_total.f k l0 = some r) :
 Calls Try.prog 185 #[.slice A0 l0.length c0] w fun e w' => e = .returned (.int .i64 r) ∧ Drawn0 w w' := by
 have HR0 := jA hr0
 have HC0 := jA hc0
 clear hr0 hc0
 have H := h; unfold impl_total.f at H
 clear h
 have H' := jA H
 clear H
 go_enter Try.func185, Try.ntmps185
 go_wp2
 go_loopg [3, 8] k (fun kq v3 v8 w' => ∃ (x3_1 : Int) (x8_1 : Int), v3 = .int .i64 x3_1 ∧ v8 = .int .i64 x8_1 ∧ Aside0 (impl_total.l0 kq x3_1 l0 (l0.length : Int) x8_1 = some r) ∧ Aside0 (kq ≤ k) ∧ Drawn0 w w')
 case atStart => exact ⟨(0), (0), Rs, Rs, H', ⟨jX _⟩, Dr⟩
 case round =>
  clear H'
  obtain ⟨x3_1, x8_1, rfl, rfl, HA, HK1, ⟨m1, rfl⟩⟩ := hrel
  cases gk with
  | zero => exact absurd HA.out (by simp [impl_total.l0])
  | succ k1 =>
   have H := HA.out
   clear HA
   simp only [impl_total.l0] at H
   replace H := Ic H; rcases H with ⟨c2, H⟩ | ⟨c2, H⟩
   · have c2b0 := jK c2
     clear c2
     replace H := Ip H; obtain ⟨c3, H⟩ := H
     have c3b0 := jK c3
     clear c3
     replace H := Ip H; obtain ⟨c4, H⟩ := H
     have c4b0 := jK c4
     clear c4
     have H' := jA H
     clear H
     obtain ⟨p111, q111, ad111, e111, hx111_0⟩ := Ai HR0.out x8_1
     cases e111
     go_wp2
     go_roundg k1
     case measure => have := HK1.out; omega
     case rel => exact ⟨(wrap64 (x3_1 + (rd l0 x8_1))), (wrap64 (x8_1 + 1)), Rs, Rs, H', ⟨by have := HK1.out; omega⟩, Dr⟩
   have c2b0 := jV c2
   clear c2
   obtain rfl := jM H
   go_wp2
   go_ret
   exact ⟨Rs, Dr⟩

/-! ### impl_SumOfPieces: function 59 -/
def impl_SumOfPieces.f (k : Nat) (l0 : List Int) : Option (Int × Bool) := (impl_ArePieces.f k l0).bind fun t112 => (if t112 = true then ((impl_total.f k l0).bind fun t113 => (some (t113, true))) else (some (0, false)))
theorem impl_SumOfPieces.calls (k : Nat) (A0 : Option Addr) (c0 : Nat) (l0 : List Int) (r1 : Int) (r2 : Bool) (w : World) (hr0 : Kd.C (Kd.int .i64) w A0 l0.length l0) (hc0 : l0.length ≤ c0) (h : impl_SumOfPieces.f k l0 = some (r1, r2)) :
 Calls Try.prog 59 #[.slice A0 l0.length c0] w fun e w' => e = .returned (.tuple #[.int .i64 r1, .bool r2]) ∧ Below w.heap.size w w' := by
 have HR0 := jA hr0
 have HC0 := jA hc0
 clear hr0 hc0
 have HB := jA (jU w.heap.size w)
 have H := h; unfold impl_SumOfPieces.f at H
 clear h
 replace H := jD H
 obtain ⟨t112, A20, H⟩ := H
 have A2 := jA A20
 clear A20
 replace H := Iw H; rcases H with ⟨rfl, H⟩ | ⟨rfl, H⟩
 · replace H := jD H
   obtain ⟨t113, A40, H⟩ := H
   have A4 := jA A40
   clear A40
   simp only [Option.some.injEq, Prod.mk.injEq] at H
   obtain ⟨rfl, rfl⟩ := H
   go_enter Try.func59, Try.ntmps59
   go_wp2_with (first | (refine Gl 5 #[.slice A0 l0.length c0] Try.func63 ?_; (with_reducible refine (impl_ArePieces.calls k _ _ l0 true _ (Cm HR0.out) HC0.out A2.out).mono ?_); rintro e w5 ⟨rfl, hb⟩; refine ⟨_, rfl, ?_⟩; replace HB := jA (jB Ub hb); clear hb) | (refine Gl 8 #[.slice A0 l0.length c0] Try.func185 ?_; (with_reducible refine (impl_total.calls k _ _ l0 t113 _ (Cm (jY HR0.out HB.out)) HC0.out A4.out).mono ?_); rintro e w' ⟨rfl, ⟨nd, rfl⟩⟩; refine ⟨_, rfl, ?_⟩))
   go_ret2
   exact ⟨Re, Ub⟩
 simp only [Option.some.injEq, Prod.mk.injEq] at H
 obtain ⟨rfl, rfl⟩ := H
 go_enter Try.func59, Try.ntmps59
 go_wp2_with (first | (refine Gl 5 #[.slice A0 l0.length c0] Try.func63 ?_; (with_reducible refine (impl_ArePieces.calls k _ _ l0 false _ (Cm HR0.out) HC0.out A2.out).mono ?_); rintro e w6 ⟨rfl, hb⟩; refine ⟨_, rfl, ?_⟩; replace HB := jA (jB Ub hb); clear hb))
 go_ret2
 exact ⟨Re, Ub⟩

/-! ### impl_within: function 177 -/
def impl_within.f (a0 : Int) (a1 : Int) (a2 : Int) : Option (Bool) := if a1 ≤ a0 then (some (decide (a0 ≤ a2))) else (some false)
theorem impl_within.calls (a0 : Int) (a1 : Int) (a2 : Int) (r : Bool) (w : World) (h : impl_within.f a0 a1 a2 = some r) :
 Calls Try.prog 177 #[.int .i64 a0, .int .i64 a1, .int .i64 a2] w fun e w' => e = .returned (.bool r) ∧ Drawn0 w w' := by
 have H := h; unfold impl_within.f at H
 clear h
 replace H := Ic H; rcases H with ⟨c4, H⟩ | ⟨c4, H⟩
 · have c4b0 := jK c4
   clear c4
   obtain rfl := jM H
   go_enter Try.func177, Try.ntmps177
   go_wp2
   go_ret
   exact ⟨Rs, Dr⟩
 have c4b0 := jV c4
 clear c4
 obtain rfl := jM H
 go_enter Try.func177, Try.ntmps177
 go_wp2
 go_ret
 exact ⟨Rs, Dr⟩

/-! ### impl_isSum: function 208 -/
def impl_isSum.f (k : Nat) (l0 : List Int) (a1 : Int) : Option (Bool) := (impl_ArePieces.f k l0).bind fun t114 => (if t114 = true then ((impl_within.f a1 0 200000).bind fun t115 => (some t115)) else (some false))
theorem impl_isSum.calls (k : Nat) (A0 : Option Addr) (c0 : Nat) (l0 : List Int) (a1 : Int) (r : Bool) (w : World) (hr0 : Kd.C (Kd.int .i64) w A0 l0.length l0) (hc0 : l0.length ≤ c0) (h : impl_isSum.f k l0 a1 = some r) :
 Calls Try.prog 208 #[.slice A0 l0.length c0, .int .i64 a1] w fun e w' => e = .returned (.bool r) ∧ Below w.heap.size w w' := by
 have HR0 := jA hr0
 have HC0 := jA hc0
 clear hr0 hc0
 have HB := jA (jU w.heap.size w)
 have H := h; unfold impl_isSum.f at H
 clear h
 replace H := jD H
 obtain ⟨t114, A30, H⟩ := H
 have A3 := jA A30
 clear A30
 replace H := Iw H; rcases H with ⟨rfl, H⟩ | ⟨rfl, H⟩
 · replace H := jD H
   obtain ⟨t115, A50, H⟩ := H
   have A5 := jA A50
   clear A50
   obtain rfl := jM H
   go_enter Try.func208, Try.ntmps208
   go_wp2_with (first | (refine Gl 6 #[.slice A0 l0.length c0] Try.func63 ?_; (with_reducible refine (impl_ArePieces.calls k _ _ l0 true _ (Cm HR0.out) HC0.out A3.out).mono ?_); rintro e w6 ⟨rfl, hb⟩; refine ⟨_, rfl, ?_⟩; replace HB := jA (jB Ub hb); clear hb) | (go_at_call 177; (with_reducible refine (impl_within.calls a1 0 200000 t115 _ A5.out).mono ?_); rintro e w' ⟨rfl, ⟨nd, rfl⟩⟩))
   go_ret
   exact ⟨Re, Ub⟩
 obtain rfl := jM H
 go_enter Try.func208, Try.ntmps208
 go_wp2_with (first | (refine Gl 6 #[.slice A0 l0.length c0] Try.func63 ?_; (with_reducible refine (impl_ArePieces.calls k _ _ l0 false _ (Cm HR0.out) HC0.out A3.out).mono ?_); rintro e w7 ⟨rfl, hb⟩; refine ⟨_, rfl, ?_⟩; replace HB := jA (jB Ub hb); clear hb))
 go_ret
 exact ⟨Re, Ub⟩

end Go.Proofs.Ytgeoihhibglhgaa.PFnPiecesHidden
