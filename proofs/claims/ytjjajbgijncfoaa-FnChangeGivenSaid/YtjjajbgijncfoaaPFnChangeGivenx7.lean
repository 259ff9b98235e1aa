-- MADE FOR THIS CLAIM by wip/xp/xprint.py (with the kit's print; some functions' contracts proved by hand)
import Derived.RangeFuncNested
import Derived.RangeFuncBound
import Derived.RangeFuncCalls
import Derived.RangeFuncLeaves
import Derived.RangeFuncBox
import Derived.Shelf.Abstract
import Derived.Shelf.RegionOpen
import Derived.OwnWalkIn
import Derived.TacticsInMore
import Derived.LoopNIn
import Derived.LoopIn
import Derived.Maps.AppendAt
import Derived.Test.YtjjajbgijncfoaaPFnChangeGivenx0
import Derived.Test.YtjjajbgijncfoaaPFnChangeGivenx3
import Derived.Test.YtjjajbgijncfoaaPFnChangeGivenx5
set_option maxHeartbeats 8000000
set_option maxRecDepth 100000
namespace Go.Proofs.Ytjjajbgijncfoaa.PFnChangeGiven
open Go.RowKit Go.Proofs.YtjjajbgijncfoaaW.PrintWords Go.Proofs.YtjjajbgijncfoaaW.PrintLast Go.Proofs.YtjjajbgijncfoaaW.PrintMore Go.Proofs.Ytjjajbgijncfoaa.Xmv
attribute [local go_sem] max2_int min2_int max_two min_two max_three min_three max_four min_four   -- for this text's walks alone
set_option linter.unusedVariables false
set_option linter.unusedSimpArgs false

/-! ### word backward -/
/-- A round keeps what lay below n₀, and block B. -/
def KeepB (n₀ B : Nat) (W W' : World) : Prop := Below n₀ W W' ∧ ∀ o, W.heap[B]? = some o → W'.heap[B]? = some o
theorem keepB_t {n₀ B : Nat} {X Y Z : World} (h : KeepB n₀ B X Y) (k : KeepB n₀ B Y Z) : KeepB n₀ B X Z := ⟨h.1.trans k.1, fun o e => k.2 o (h.2 o e)⟩
theorem keepB_b {n₀ B : Nat} {w : World} (hn : n₀ ≤ w.heap.size) (hB : B < w.heap.size) (W : World) (l : Nat) (o o' : Obj) (hl : w.heap.size ≤ l) (h : W.heap[l]? = some o) (hc : o.isCells = false) (hw : o.isWalk = false) : KeepB n₀ B W (W.putObj l o') :=
  ⟨belowK_b hn W l o o' hl h hc hw, fun u e => (World.putObj_heap_other (by omega)).trans e⟩
def bwL (zs : List Int) (k : Nat) : List Int := zs.reverse.take k
theorem bwL_succ (zs : List Int) (k : Nat) (h : k < zs.length) : bwL zs (k + 1) = bwL zs k ++ [rd zs ((zs.length : Int) - 1 - k)] := by
  unfold bwL
  rw [List.take_succ_eq_append_getElem (by simpa using h), List.getElem_reverse]
  congr 2
  simp [rd, List.getD_eq_getElem?_getD]
  rw [List.getElem?_eq_getElem (by omega)]; rfl
attribute [local go_sem] Oper.semAt_some in
theorem bw_in (F : Fence) (n : Nat) (h5 : F.fn 160) (hro : F.round = none) (a : Option Addr) (len cap : Nat) (w : World) :
    CallsIn F n Try.prog 160 #[.slice a len cap] w fun e w' => e = .returned (.func (.func 184) #[] #[.pointer (some ⟨w.heap.size, 0, none⟩)]) ∧ w' = w.alloc (.cells #[.slice a len cap] 24) := by
  refine callsIn_of_wp Try.func160 rfl h5 ?_ hro
  simp only [Try.ntmps160, List.size_toArray, List.length_cons, List.length_nil, Nat.reduceAdd, Nat.reduceSub, Array.replicate_succ, Array.replicate_zero, List.push_toArray, List.append_toArray, List.nil_append, List.cons_append]
  gi_wp2
  go_ret
  exact ⟨rfl, rfl⟩
/-! ### impl_greedy: function 100 -/
-- GIVEN loop.example/g01305/impl.greedy only=1
-- USES backward
/-- Greedy quotients from the greatest coin on. -/
def grR : List Int → Int → List Int
  | [], _ => []
  | c :: t, a => a / c :: grR t (a % c)
/-- What greedy change leaves. -/
def grE : List Int → Int → Int
  | [], a => a
  | c :: t, a => grE t (a % c)
def impl_greedy.f (l0 : List Int) (a1 : Int) : Option (List Int × Bool) := if l0.length ≤ 1000000 ∧ (∀ x ∈ l0, 1 ≤ x) ∧ 0 ≤ a1 ∧ a1 ≤ 1000000000000 then some ((grR l0.reverse a1).reverse, decide (grE l0.reverse a1 = 0)) else none
/-- One round. -/
def grT (zs : List Int) (s : List Int × Int) (k : Nat) : List Int × Int := (s.1.set (zs.length - 1 - k) (s.2 / rd zs ((zs.length : Int) - 1 - k)), s.2 % rd zs ((zs.length : Int) - 1 - k))
def grS (zs : List Int) (a : Int) (p : List {k : Nat // k < zs.length}) : List Int × Int := (p.map (·.1)).foldl (grT zs) (List.replicate zs.length 0, a)
theorem grS_snoc (zs : List Int) (a : Int) (p : List {k : Nat // k < zs.length}) (x : {k : Nat // k < zs.length}) : grS zs a (p ++ [x]) = grT zs (grS zs a p) x.1 := by unfold grS; rw [List.map_append, List.foldl_append]; rfl
theorem grT_len (zs : List Int) : ∀ (p : List Nat) (s : List Int × Int), (p.foldl (grT zs) s).1.length = s.1.length
  | [], _ => rfl
  | k :: t, s => by rw [List.foldl_cons, grT_len zs t]; simp [grT]
theorem grS_len (zs : List Int) (a : Int) (p : List {k : Nat // k < zs.length}) : (grS zs a p).1.length = zs.length := by unfold grS; rw [grT_len]; simp
theorem rd_ge {zs : List Int} (h : ∀ x ∈ zs, 1 ≤ x) (k : Nat) (hk : k < zs.length) : 1 ≤ rd zs ((zs.length : Int) - 1 - k) := by
  have e : (zs.length : Int) - 1 - k = ((zs.length - 1 - k : Nat) : Int) := by omega
  rw [e]
  simp only [rd, List.getD_eq_getElem?_getD, Int.toNat_natCast]
  rw [List.getElem?_eq_getElem (by omega)]
  exact h _ (List.getElem_mem _)
theorem grS_range (zs : List Int) (h : ∀ x ∈ zs, 1 ≤ x) (a : Int) (h0 : 0 ≤ a) (h1 : a ≤ 1000000000000) (p : List {k : Nat // k < zs.length}) : 0 ≤ (grS zs a p).2 ∧ (grS zs a p).2 ≤ 1000000000000 := by
  have : ∀ (p : List {k : Nat // k < zs.length}) (s : List Int × Int), 0 ≤ s.2 ∧ s.2 ≤ 1000000000000 → 0 ≤ ((p.map (·.1)).foldl (grT zs) s).2 ∧ ((p.map (·.1)).foldl (grT zs) s).2 ≤ 1000000000000 := by
    intro p
    induction p with
    | nil => intro s hs; exact hs
    | cons x t ih =>
      intro s hs
      refine ih _ ?_
      have hc := rd_ge h x.1 x.2
      have h2 : 0 ≤ s.2 % rd zs ((zs.length : Int) - 1 - x.1) := Int.emod_nonneg _ (by omega)
      have h3 := Int.mul_nonneg (show 0 ≤ rd zs ((zs.length : Int) - 1 - x.1) by omega) (Int.ediv_nonneg hs.1 (show 0 ≤ rd zs ((zs.length : Int) - 1 - x.1) by omega))
      have h4 := Int.mul_ediv_add_emod s.2 (rd zs ((zs.length : Int) - 1 - x.1))
      have h5 : s.2 % rd zs ((zs.length : Int) - 1 - x.1) ≤ 1000000000000 := by omega
      exact ⟨h2, h5⟩
  exact this p _ ⟨h0, h1⟩
theorem grR_app (p q : List Int) (a : Int) : grR (p ++ q) a = grR p a ++ grR q (grE p a) := by
  induction p generalizing a with
  | nil => rfl
  | cons c t ih => rw [List.cons_append, grR, ih, grR, grE, List.cons_append]
theorem grE_app (p q : List Int) (a : Int) : grE (p ++ q) a = grE q (grE p a) := by
  induction p generalizing a with
  | nil => rfl
  | cons c t ih => rw [List.cons_append, grE, ih, grE]
theorem grR_length (l : List Int) (a : Int) : (grR l a).length = l.length := by
  induction l generalizing a with
  | nil => rfl
  | cons c t ih => rw [grR, List.length_cons, ih, List.length_cons]
theorem grT_all (zs : List Int) (a : Int) : ∀ k, k ≤ zs.length → (List.range k).foldl (grT zs) (List.replicate zs.length 0, a) = (List.replicate (zs.length - k) 0 ++ (grR (zs.reverse.take k) a).reverse, grE (zs.reverse.take k) a)
  | 0, _ => by simp [grR, grE]
  | k + 1, h => by
    have hs := bwL_succ zs k (by omega)
    unfold bwL at hs
    rw [List.range_succ, List.foldl_append, grT_all zs a k (by omega), hs, grR_app, grE_app]
    simp only [List.foldl_cons, List.foldl_nil, grT, grR, grE, List.reverse_append, List.reverse_cons, List.reverse_nil, List.nil_append, List.singleton_append]
    refine Prod.ext ?_ rfl
    obtain ⟨m, hm⟩ : ∃ m, zs.length - k = m + 1 := ⟨zs.length - k - 1, by omega⟩
    show (List.replicate (zs.length - k) 0 ++ (grR (zs.reverse.take k) a).reverse).set (zs.length - 1 - k) _ = _
    rw [hm, show zs.length - (k + 1) = m by omega, show zs.length - 1 - k = m by omega, List.replicate_succ', List.append_assoc]
    rw [List.set_append_right _ _ (by simp)]
    simp
theorem grS_all (zs : List Int) (a : Int) (p : List {k : Nat // k < zs.length}) (h : p.map (·.1) = List.range zs.length) : grS zs a p = ((grR zs.reverse a).reverse, grE zs.reverse a) := by
  unfold grS
  rw [h, grT_all zs a _ (Nat.le_refl _), Nat.sub_self, List.take_of_length_le (by simp)]
  simp
/-- The walk back, with rounds told by their number. -/
def bwK (zs : List Int) : Nat → List {k : Nat // k < zs.length}
  | 0 => []
  | k + 1 => if h : k < zs.length then bwK zs k ++ [⟨k, h⟩] else bwK zs k
theorem bwK_val (zs : List Int) : ∀ k, k ≤ zs.length → (bwK zs k).map (·.1) = List.range k
  | 0, _ => rfl
  | k + 1, h => by rw [bwK, dif_pos (by omega), List.map_append, bwK_val zs k (by omega), List.range_succ]; rfl
theorem bwK_len (zs : List Int) (k : Nat) (h : k ≤ zs.length) : (bwK zs k).length = k := by
  have := congrArg List.length (bwK_val zs k h)
  simpa using this
attribute [local go_sem] Oper.semAt_some in
set_option maxRecDepth 100000 in
set_option maxHeartbeats 4000000 in
theorem bw1k_in (F : Fence) (n : Nat) (h7 : F.fn 184) (hro : F.round = none) (hn : 1 ≤ n) (l Bs : Nat) (A : Option Addr) (c : Nat) (zs : List Int) (w0 : World) (hr : Kd.C (Kd.int .i64) w0 A zs.length zs) (hlen : zs.length ≤ 1000000) (J Jx : List {k : Nat // k < zs.length} → World → Prop)
    (xs : Nat → List {k : Nat // k < zs.length}) (hx0 : xs 0 = []) (hxs : ∀ k (h : k < zs.length), xs (k + 1) = xs k ++ [⟨k, h⟩]) (hxl : ∀ k, k ≤ zs.length → (xs k).length = k)
    (hY : ∀ pre x W, J pre W → pre.length < zs.length → YieldAt F (n - 1) Try.prog l #[.int .i64 ((zs.length : Int) - 1 - x.1), .int .i64 (rd zs ((zs.length : Int) - 1 - x.1))] W fun e W' =>
      (e = .returned (.bool true) ∧ J (pre ++ [x]) W' ∧ KeepB w0.heap.size Bs W W') ∨ (e = .returned (.bool false) ∧ Jx (pre ++ [x]) W'))
    (W : World) (hW : Below w0.heap.size w0 W) (hBs : W.heap[Bs]? = some (.cells #[.slice A zs.length c] 24 (0, 0))) (h0 : J [] W) :
    CallsIn F n Try.prog 184 #[.func (.yield l) #[] #[], .pointer (some ⟨Bs, 0, none⟩)] W fun e W' => (∃ v, e = .returned v) ∧ (J (xs zs.length) W' ∨ ∃ k, k ≤ zs.length ∧ Jx (xs k) W') := by
  have hB0 := (blk_cell hBs 0).trans (show (#[.slice A zs.length c] : Array Value)[0]? = some (.slice A zs.length c) from rfl)
  have hlw : wrap64 ((zs.length : Int) - 1) = (zs.length : Int) - 1 := by unfold wrap64; omega
  have HBS := Aside0.mk hBs
  have HR := Aside0.mk hr
  have HXS := Aside0.mk hxs
  have HXL := Aside0.mk hxl
  clear hxs hxl hBs hr
  refine callsIn_of_wp Try.func184 rfl h7 ?_ hro
  simp only [Try.ntmps184, List.size_toArray, List.length_cons, List.length_nil, Nat.reduceAdd, Nat.reduceSub, Array.replicate_succ, Array.replicate_zero, List.push_toArray, List.append_toArray, List.nil_append, List.cons_append]
  gi_wp2
  gi_loopw [3] (fun i wr => ∃ k : Nat, k ≤ zs.length ∧ i = .int .i64 ((zs.length : Int) - 1 - k) ∧ J (xs k) wr ∧ Aside0 (KeepB w0.heap.size Bs W wr))
    (fun i _ => (intOf i + 1).toNat)
  case atStart => exact ⟨0, Nat.zero_le _, by simp, by rw [hx0]; exact h0, ⟨Below.refl _ _, fun _ e => e⟩⟩
  case round =>
    obtain ⟨k, hk, rfl, hJs, HK⟩ := hrel
    have HBr := Aside0.mk (HK.out.2 _ HBS.out)
    have hbc : wr.cell? ⟨Bs, 0, none⟩ = some (.slice A zs.length c) := (blk_cell HBr.out 0).trans rfl
    obtain ⟨i, hi⟩ : ∃ i : Int, i = (zs.length : Int) - 1 - k := ⟨_, rfl⟩
    rw [← hi]
    by_cases hlt : 0 ≤ i
    · have hj1 := hlt
      have hilt : i < (zs.length : Int) := by omega
      obtain ⟨ad, e1, hx⟩ := Kd.at_int (Kd.C_below HR.out (hW.trans HK.out.1)) i hlt hilt
      cases e1
      have hkl : k < zs.length := by omega
      obtain ⟨fn, tmps, assign, body, hy, hR⟩ := hY _ ⟨k, hkl⟩ wr hJs (by rw [HXL.out k hk]; omega)
      dsimp only at hy
      rw [← hi] at hy
      have HKK := Aside0.mk hkl
      have hw1 : wrap64 (i - 1) = i - 1 := by unfold wrap64; omega
      have hlt0 := decide_eq_true hlt
      have hlt1 := eq_true hilt
      have hj1 := eq_true hlt
      have HI := Aside0.mk (And.intro hi (And.intro hlt hilt))
      have HKL := Aside0.mk hk
      clear hi hlt hilt hk
      gi_wp2
      refine hR.mono ?_
      rintro e W3 (⟨rfl, hJ3, hk3⟩ | ⟨rfl, hJx3⟩)
      · have HBr3 := Aside0.mk (hk3.2 _ HBr.out)
        gi_wp2
        go_roundw
        case rel => exact ⟨k + 1, by have := HI.out; have := HKL.out; omega, by first | (simp; have := HI.out; omega) | (congr 1; have := HI.out; push_cast; omega), by rw [HXS.out k HKK.out]; exact hJ3, ⟨keepB_t HK.out hk3⟩⟩
        case measure => have := HI.out; simp [intOf]; omega
      · gi_wp2
        refine bodyPost_ret (results_none rfl _ _ _) rfl ?_
        exact ⟨⟨_, rfl⟩, .inr ⟨k + 1, by have := HI.out; have := HKL.out; omega, by rw [HXS.out k HKK.out]; exact hJx3⟩⟩
    · obtain rfl : k = zs.length := by omega
      have hlt0 := decide_eq_false hlt
      gi_wp2
      go_end0
      exact ⟨⟨_, rfl⟩, .inl hJs⟩
theorem bwk_stops (F : Fence) (n : Nat) (h7 : F.fn 184) (hro : F.round = none) (hn : 1 ≤ n) (Bs : Nat) (A : Option Addr) (c : Nat) (zs : List Int) (w0 : World) (hr : Kd.C (Kd.int .i64) w0 A zs.length zs) (hlen : zs.length ≤ 1000000)
    (w : World) (hw : Below w0.heap.size w0 w) (hBs : w.heap[Bs]? = some (.cells #[.slice A zs.length c] 24 (0, 0))) :
    SeqStopsK F n Try.prog 184 #[.pointer (some ⟨Bs, 0, none⟩)] (fun x : {k : Nat // k < zs.length} => #[Value.int .i64 ((zs.length : Int) - 1 - x.1), Value.int .i64 (rd zs ((zs.length : Int) - 1 - x.1))]) (KeepB w0.heap.size Bs) (fun ys => ys.map (·.1) = List.range zs.length) (fun pre => True) zs.length w := fun l J Jx W hW _ _ hY h0 => by
  refine (bw1k_in F n h7 hro hn l Bs A c zs w0 hr hlen J Jx (bwK zs) rfl (fun k h => by rw [bwK, dif_pos h]) (fun k h => bwK_len zs k h) hY W (hw.trans (hW.mono hw.size)) (blk_below hBs hW) h0).mono ?_
  rintro e W' ⟨he, h | ⟨k, hk, h⟩⟩
  · exact ⟨he, .inl ⟨_, bwK_val zs _ (Nat.le_refl _), h⟩⟩
  · exact ⟨he, .inr ⟨_, trivial, h⟩⟩
theorem make_full_In {F : Fence} {n : Nat} {P : Program} (w : World) {ops : Array Oper} {rest : List Oper} {o : Oper} {a : Act} {Q : Exit → Act → World → Prop}
    (hg : o.guard = none) (l c : Operand) (t : TypeId) (hop : o.op = Op.makeSlice t l c)
    (base : Nat) (e : TypeId) (i : TypeInfo) (z : Value) (size : Nat) (h1 : P.underlying t = some (.slice e)) (h2 : P.info? e = some i) (h3 : i.zero = some z) (h4 : i.size = size)
    (kl kc : IntKind) (L C : Int) (m : Nat) (hl : a.eval l = .int kl L) (hc : a.eval c = .int kc C) (hL : L = (m : Int)) (hC : C = (m : Int)) (b2 : i.bytes * m ≤ 281474976710656) (b3 : m ≤ maxLen) (b4 : base ≤ w.heap.size)
    (hK : ∀ w', w'.ownsRow base e size (.slice (some ⟨w.heap.size, 0, none⟩) m m) m (madeCells z.cells (m * size)).toList → w.grownBy w' none → wpListIn F n P ops Q rest (a.put o.dst (.slice (some ⟨w.heap.size, 0, none⟩) m m)) w') :
    wpListIn F n P ops Q (o :: rest) a w := by
  refine wpListIn_plain hg fun K hK' => ?_
  obtain ⟨w', hrun, r1, r2⟩ := run_make_full (P := P) w base t e i z size h1 h2 h3 h4 kl kc m b2 b3 b4
  subst hL
  subst hC
  unfold Oper.wpIn
  refine ⟨?_, ?_⟩
  · simp [Oper.about, hop]
  · rw [Oper.semAt_plain F _ _ (by rw [hop]; intro c hc'; cases hc')]
    simp [execOp, hop, hl, hc, hrun, Result.andThen]
    exact hK' _ _ (hK w' r1 r2)
attribute [local go_sem] Oper.semAt_some in
set_option maxRecDepth 100000 in
set_option maxHeartbeats 8000000 in
theorem greedy_in (A0 : Option Addr) (c0 : Nat) (l0 : List Int) (a1 : Int) (hl : l0.length ≤ 1000000) (h1 : ∀ x ∈ l0, 1 ≤ x) (h2 : 0 ≤ a1) (h3 : a1 ≤ 1000000000000) (w : World) (hr0 : Kd.C (Kd.int .i64) w A0 l0.length l0) (hc0 : l0.length ≤ c0) :
    Calls Try.prog 100 #[.slice A0 l0.length c0, .int .i64 a1] w fun e w' => ∃ v0_ : Value, e = .returned (.tuple #[v0_, .bool (decide (grE l0.reverse a1 = 0))]) ∧ Kd.R (Kd.int .i64) 3 w' w.heap.size (fun _ => True) v0_ (grR l0.reverse a1).reverse ∧ Below w.heap.size w w' := by
  have HR := Aside0.mk hr0
  have H1 := Aside0.mk h1
  clear hr0 h1
  refine (callsIn_wide (n := 5)).1 ?_
  refine callsIn_of_wp_marks Try.func100 rfl trivial ?_ rfl
  simp only [Try.ntmps100, List.size_toArray, List.length_cons, List.length_nil, Nat.reduceAdd, Nat.reduceSub, Array.replicate_succ, Array.replicate_zero, List.push_toArray, List.append_toArray, List.nil_append, List.cons_append]
  obtain ⟨i0, hi, hz0, hz1, hz2⟩ := info_parts info3
  gi_wp2_with (first
    | (gi_at_make; refine make_full_In _ rfl _ _ 24 rfl w.heap.size 3 i0 (.int .i64 0) 1 Try.underlying24 hi hz0 hz1 .i64 .i64 _ _ l0.length rfl rfl rfl rfl (by rw [hz2]; omega) (by unfold maxLen; omega) (by simp) ?_; intro w1 hown1 hgr1)
    | (refine ⟨trivial, ?_⟩; gi_at_call 160; refine (bw_in _ _ trivial rfl _ _ _ _).mono ?_; rintro e w3 ⟨rfl, rfl⟩))
  have hlt1 : w.heap.size + 1 < w1.heap.size := by
    have h_ := (hown1.lt _ rfl).2
    simpa using h_
  have bA := (Boxed.new w 3 (.int .i64 a1)).kept hgr1 (by simp)
  have hbw1 : Below w.heap.size w w1 := (below_alloc (Below.refl w.heap.size w) (.cells #[.int .i64 a1] 3)).grown hgr1 (by simp) (fun k e => by cases e)
  have hrow1 : w1.ownsRow w.heap.size 3 1 (.slice (some ⟨w.heap.size + 1, 0, none⟩) l0.length l0.length) l0.length ((List.replicate l0.length 0).map (Value.int .i64)) := by
    have e : (madeCells (Value.int .i64 0).cells (l0.length * 1)).toList = (List.replicate l0.length 0).map (Value.int .i64) := by
      show (madeCells #[Value.int .i64 0] (l0.length * 1)).toList = _
      rw [Nat.mul_one, toList_madeCells_one, List.map_replicate]
    rw [← e]; simpa using hown1
  obtain ⟨vS, hvS⟩ : ∃ v, v = Value.slice (some ⟨w.heap.size + 1, 0, none⟩) l0.length l0.length := ⟨_, rfl⟩
  have bO := (Boxed.new w1 24 (.slice (some ⟨w.heap.size + 1, 0, none⟩) l0.length l0.length)).alloc (.cells #[Value.slice A0 l0.length c0] 24)
  have bB := Boxed.new (w1.alloc (.cells #[Value.slice (some ⟨w.heap.size + 1, 0, none⟩) l0.length l0.length] 24)) 24 (.slice A0 l0.length c0)
  rw [World.size_alloc] at bB
  have bA3 := (bA.alloc (.cells #[Value.slice (some ⟨w.heap.size + 1, 0, none⟩) l0.length l0.length] 24)).alloc (.cells #[Value.slice A0 l0.length c0] 24)
  have hrow3 := (hrow1.alloc (.cells #[Value.slice (some ⟨w.heap.size + 1, 0, none⟩) l0.length l0.length] 24)).alloc (.cells #[Value.slice A0 l0.length c0] 24)
  have hB3 := below_alloc (below_alloc hbw1 (.cells #[Value.slice (some ⟨w.heap.size + 1, 0, none⟩) l0.length l0.length] 24)) (.cells #[Value.slice A0 l0.length c0] 24)
  obtain ⟨W0, hW0⟩ : ∃ W0, ((w1.alloc (Obj.cells #[Value.slice (some { block := w.heap.size + 1, off := 0 }) l0.length l0.length] 24)).alloc (Obj.cells #[Value.slice A0 l0.length c0] 24)) = W0 := ⟨_, rfl⟩
  have hsz : W0.heap.size = w1.heap.size + 1 + 1 := by rw [← hW0]; simp
  rw [hW0] at bO bB bA3 hrow3 hB3 ⊢
  refine wpIn_rangeFunc_ownG rfl (by omega) (gf := 184) (lb := #[.pointer (some ⟨w1.heap.size + 1, 0, none⟩)]) rfl trivial (enters_of Try.func184 (by kernel_rfl) rfl)
    (bwk_stops Fence.wide _ trivial rfl (by omega) (w1.heap.size + 1) A0 c0 l0 w HR.out hl _ hB3 bB) keepB_t (keepB_b (by omega) (by omega)) (Below.refl _ _) (fun _ => rfl)
    (fun p W => ((∃ v, Boxed W w1.heap.size 24 v ∧ W.ownsRow w.heap.size 3 1 v l0.length ((grS l0 a1 p).1.map (Value.int .i64)) ∧ v = vS) ∧ (Boxed W w.heap.size 3 (.int .i64 (grS l0 a1 p).2) ∧ Boxed W (w1.heap.size + 1) 24 (.slice A0 l0.length c0))) ∧ Below w.heap.size w W)
    (fun _ _ _ => False)
    (OwnFrom.and (OwnFrom.and (Own.from (holdsRow_own w.heap.size w1.heap.size 24 3 1 (fun _ => l0.length) (fun p => (grS l0 a1 p).1.map (Value.int .i64)) (fun _ v => v = vS)) _) (OwnFrom.and (Own.from (boxed_own w.heap.size 3 (fun p => .int .i64 (grS l0 a1 p).2)) _) (Own.from (boxed_own (w1.heap.size + 1) 24 (fun _ => .slice A0 l0.length c0)) _))) (ownFrom_below (Nat.le_refl _) (by omega)))
    (fun _ _ _ _ _ hs _ _ => hs)
    ⟨⟨⟨_, bO, hrow3, hvS.symm⟩, bA3, bB⟩, hB3⟩
    (fun x => { tmps := #[.slice A0 l0.length c0, .int .i64 a1, undef, .pointer (some ⟨w.heap.size, 0, none⟩), .slice none 0 0, .bool false, .pointer (some ⟨w1.heap.size, 0, none⟩), .int .i64 ((l0.length : Int) - 1 - x.1), .int .i64 (rd l0 ((l0.length : Int) - 1 - x.1)), .slice A0 l0.length c0, .int .i64 l0.length, .slice (some ⟨w.heap.size + 1, 0, none⟩) l0.length l0.length, .slice A0 l0.length c0, .func (.func 184) #[] #[.pointer (some ⟨w1.heap.size + 1, 0, none⟩)], .int .i64 ((l0.length : Int) - 1 - x.1), .int .i64 (rd l0 ((l0.length : Int) - 1 - x.1)), undef, undef, undef, undef, undef, undef, undef, undef, undef, undef, undef, undef], defers := [] }) ?assign ?body ?done ?stop
  case assign =>
    intro l x W K hK
    gi_wp2
    exact hK
  case body =>
    rintro l pre x W ⟨⟨⟨v, hv, hrow, hvv⟩, bL, bS⟩, hB⟩ hlt
    rw [hvS] at hvv
    subst hvv
    have hrl := grS_len l0 a1 pre
    have hra := grS_range l0 H1.out a1 h2 h3 pre
    have hcc := rd_ge H1.out x.1 x.2
    have hxl := x.2
    have hsn := grS_snoc l0 a1 pre x
    unfold grT at hsn
    obtain ⟨ra, hae⟩ : ∃ z, z = (grS l0 a1 pre).2 := ⟨_, rfl⟩
    obtain ⟨rr, hre⟩ : ∃ z, z = (grS l0 a1 pre).1 := ⟨_, rfl⟩
    rw [← hae, ← hre] at hsn
    rw [← hae] at bL hra
    rw [← hre] at hrow hrl
    obtain ⟨ii, hie⟩ : ∃ z : Int, z = (l0.length : Int) - 1 - x.1 := ⟨_, rfl⟩
    rw [← hie] at hsn hcc ⊢
    obtain ⟨c, hce⟩ : ∃ z : Int, z = rd l0 ii := ⟨_, rfl⟩
    rw [← hce] at hsn hcc ⊢
    have hi0 : 0 ≤ ii := by omega
    have hin : ii < (l0.length : Int) := by omega
    have hit : ii.toNat = l0.length - 1 - x.1 := by omega
    rw [← hit] at hsn
    have hvc := hv.cell
    have hlc := bL.cell
    have hlf := bL.frozen
    have hxc := hrow.cellAt ii.toNat (by omega)
    have hxf := hrow.frozenAt ii.toNat
    rw [List.getElem?_map, List.getElem?_eq_getElem (by omega), Option.map_some] at hxc
    obtain ⟨old, hxo⟩ : ∃ u : Int, W.cell? ⟨w.heap.size + 1, ii.toNat, none⟩ = some (.int .i64 u) := ⟨_, hxc⟩
    clear hxc
    have hst := hrow.stored ii.toNat (.int .i64 (ra / c))
    have hq : wrap64 (Int.tdiv ra c) = ra / c := by
      rw [Int.tdiv_eq_ediv_of_nonneg hra.1]
      have g0 := Int.ediv_nonneg hra.1 (show 0 ≤ c by omega)
      have g1 := Int.ediv_le_self c hra.1
      unfold wrap64; omega
    have hm : Int.tmod ra c = ra % c := Int.tmod_eq_emod_of_nonneg hra.1
    have hcz : (c == 0) = false := beq_eq_false_iff_ne.mpr (by omega)
    have hcz1 : (c != 0) = true := bne_iff_ne.mpr (by omega)
    have hcz2 : ¬ c = 0 := by omega
    have hi0' := eq_true hi0
    have hin' := eq_true hin
    have HI := Aside0.mk (And.intro hi0 hin)
    have HSN := Aside0.mk hsn
    have HST := Aside0.mk hst
    have HRA := Aside0.mk hra
    have HRW := Aside0.mk hrow
    have HBD := Aside0.mk hB
    have HV := Aside0.mk hv
    have HL := Aside0.mk bL
    have HS := Aside0.mk bS
    have HRL := Aside0.mk hrl
    have HCC := Aside0.mk hcc
    clear hit hie hce hae hre hi0 hin hsn hst hrow hv bL bS hrl hcc hra hB
    have g1 := HST.out
    have hS1 := Boxed.kept HS.out g1.2 (fun e => by injection e with e; omega)
    have hV1 := Boxed.kept HV.out g1.2 (fun e => by injection e with e; omega)
    have hL1 := Boxed.kept HL.out g1.2 (fun e => by injection e with e; omega)
    have k2 := (((KeepsOthers.setCell W ⟨w.heap.size + 1, ii.toNat, none⟩ (.int .i64 (ra / c))).trans (KeepsOthers.setCell _ ⟨w.heap.size, 0, none⟩ (.int .i64 (ra % c))))).trans (KeepsOthers.drew _)
    have b2 := (((Below.refl w.heap.size W).setCell (p := ⟨w.heap.size + 1, ii.toNat, none⟩) (by show w.heap.size ≤ w.heap.size + 1; omega) (.int .i64 (ra / c))).setCell (p := ⟨w.heap.size, 0, none⟩) (Nat.le_refl _) (.int .i64 (ra % c))).drew
    have hS2 := hS1.other (show w1.heap.size + 1 ≠ w.heap.size by omega) (.int .i64 (ra % c))
    have hV2 := hV1.other (show w1.heap.size ≠ w.heap.size by omega) (.int .i64 (ra % c))
    have hL2 := hL1.set (.int .i64 (ra % c))
    have hR2 := World.ownsRow.drew (own_setCell (p := ⟨w.heap.size, 0, none⟩) g1.1 (fun e => by injection e with e; have e : w.heap.size = w.heap.size + 1 := e; omega) (.int .i64 (ra % c)))
    rw [show (rr.map (Value.int .i64)).set ii.toNat (.int .i64 (ra / c)) = (grS l0 a1 (pre ++ [x])).1.map (Value.int .i64) from by rw [HSN.out, List.map_set]] at hR2
    have E2 := Aside0.mk (show (grS l0 a1 (pre ++ [x])).2 = ra % c by rw [HSN.out])
    have FIN := Aside0.mk (And.intro k2 (And.intro b2 (And.intro hS2 (And.intro hV2 (And.intro hR2 hL2)))))
    clear k2 b2 hS2 hV2 hR2 hL2 g1 hS1 hV1 hL1
    gi_wp2
    gi_region
    all_goals (gi_wp2; exact ⟨FIN.out.1.from _, ⟨FIN.out.2.1, fun o e => by rw [show W.heap[w1.heap.size + 1]? = _ from HS.out] at e; cases e; exact FIN.out.2.2.1⟩, ⟨⟨⟨_, FIN.out.2.2.2.1, FIN.out.2.2.2.2.1, hvS.symm⟩, (by rw [E2.out]; exact FIN.out.2.2.2.2.2), FIN.out.2.2.1⟩, HBD.out.trans FIN.out.2.1⟩⟩)
  case done =>
    rintro D ys W hD hS ⟨⟨⟨v, hv, hrow, hvv⟩, bL, bS⟩, hB⟩ hK
    rw [grS_all _ _ _ hS] at hrow bL
    rw [hvS] at hvv
    subst hvv
    have hvc := hv.cell
    have hlc := bL.cell
    have hrow' : W.ownsRow w.heap.size 3 1 (.slice (some ⟨w.heap.size + 1, 0, none⟩) l0.length l0.length) ((grR l0.reverse a1).reverse).length (encs (Value.int .i64) (grR l0.reverse a1).reverse) := by
      have e : ((grR l0.reverse a1).reverse).length = l0.length := by rw [List.length_reverse, grR_length, List.length_reverse]
      rw [e]; exact hrow
    have HRW := Aside0.mk hrow'
    clear hrow hrow'
    gi_wp2
    gi_region
    gi_wp2
    refine ⟨by simp, .inl ⟨_, _, rfl, run_takeDeferred (show W.drew.heap[D]? = _ from hK), ?_⟩⟩
    refine ⟨_, results_tmp2 rfl _ _ _, _, rfl, Kd.R_of_own (ownsRow_putObj (W := W.drew) (World.ownsRow.drew HRW.out) _ hK rfl) (fun _ _ => trivial), ?_⟩
    exact (hB.drew).trans (belowK_b (w := w) (Nat.le_refl _) W.drew D _ _ (by omega) hK rfl rfl)
  case stop =>
    rintro D c pre W _ _ h _
    exact h.elim
theorem impl_greedy.calls (A0 : Option Addr) (c0 : Nat) (l0 : List Int) (a1 : Int) (r1 : List Int) (r2 : Bool) (w : World) (hr0 : Kd.C (Kd.int .i64) w A0 l0.length l0) (hc0 : l0.length ≤ c0) (h : impl_greedy.f l0 a1 = some (r1, r2)) :
    Calls Try.prog 100 #[.slice A0 l0.length c0, .int .i64 a1] w fun e w' => ∃ v0_ : Value, e = .returned (.tuple #[v0_, .bool r2]) ∧ Kd.R (Kd.int .i64) 3 w' w.heap.size (fun _ => True) v0_ r1 ∧ Below w.heap.size w w' := by
  unfold impl_greedy.f at h
  by_cases c : l0.length ≤ 1000000 ∧ (∀ x ∈ l0, 1 ≤ x) ∧ 0 ≤ a1 ∧ a1 ≤ 1000000000000
  · rw [if_pos c] at h
    obtain ⟨rfl, rfl⟩ := Prod.mk.inj (Option.some.inj h)
    exact greedy_in A0 c0 l0 a1 c.1 c.2.1 c.2.2.1 c.2.2.2 w hr0 hc0
  · rw [if_neg c] at h; cases h


/-! ### impl_GreedyChange: function 13 -/
def impl_GreedyChange.f (k : Nat) (l0 : List Int) (a1 : Int) : Option (List Int × Bool) := (impl_isAmount.f k l0 a1).bind fun t330 => (if t330 = true then ((impl_greedy.f l0 a1).bind fun bt331 => (if bt331.2 = true then (some (bt331.1, true)) else (some (([] : List Int), false)))) else (some (([] : List Int), false)))
theorem impl_GreedyChange.calls (k : Nat) (A0 : Option Addr) (c0 : Nat) (l0 : List Int) (a1 : Int) (r1 : List Int) (r2 : Bool) (w : World) (hr0 : Kd.C (Kd.int .i64) w A0 l0.length l0) (hc0 : l0.length ≤ c0) (h : impl_GreedyChange.f k l0 a1 = some (r1, r2)) :
 Calls Try.prog 13 #[.slice A0 l0.length c0, .int .i64 a1] w fun e w' => ∃ v0_ : Value, e = .returned (.tuple #[v0_, .bool r2]) ∧ Kd.R (Kd.int .i64) 3 w' w.heap.size (fun _ => True) v0_ r1 ∧ Below w.heap.size w w' := by
 have HR0 := Aside0.mk hr0
 have HC0 := Aside0.mk hc0
 clear hr0 hc0
 have HB := Aside0.mk (Below.refl w.heap.size w)
 have H := h; unfold impl_GreedyChange.f at H
 clear h
 replace H := Option.bind_eq_some_iff.mp H
 obtain ⟨t330, A30, H⟩ := H
 have A3 := Aside0.mk A30
 clear A30
 replace H := Iw H; rcases H with ⟨rfl, H⟩ | ⟨rfl, H⟩
 · replace H := Option.bind_eq_some_iff.mp H
   obtain ⟨⟨t331, t332⟩, A50, H⟩ := H
   have A5 := Aside0.mk A50
   clear A50
   replace H := Iw H; rcases H with ⟨rfl, H⟩ | ⟨rfl, H⟩
   · simp only [Option.some.injEq, Prod.mk.injEq] at H
     obtain ⟨rfl, rfl⟩ := H
     go_enter Try.func13, Try.ntmps13
     go_wp2_with (first | (refine Gl 10 #[.slice A0 l0.length c0, .int .i64 a1] Try.func99 ?_; (with_reducible refine (impl_isAmount.calls k _ _ l0 a1 true _ (Cm HR0.out) HC0.out A3.out).mono ?_); rintro e w7 ⟨rfl, hb⟩; refine ⟨_, rfl, ?_⟩; replace HB := Aside0.mk (below_step Ub hb); clear hb) | (refine Gl 15 #[.slice A0 l0.length c0, .int .i64 a1] Try.func100 ?_; (with_reducible refine (impl_greedy.calls _ _ l0 a1 t331 true _ (Cm (Kd.C_below HR0.out HB.out)) HC0.out A5.out).mono ?_); rintro e w8 ⟨v333, rfl, ho0, hb⟩; refine ⟨_, rfl, ?_⟩; have HO334 := Aside0.mk (Kd.R_lower ho0 (below_size Ub)); replace HB := Aside0.mk (below_step Ub hb); clear hb ho0))
     go_ret2
     exact ⟨_, Re, Rm HO334.out, Ub⟩
   simp only [Option.some.injEq, Prod.mk.injEq] at H
   obtain ⟨rfl, rfl⟩ := H
   go_enter Try.func13, Try.ntmps13
   go_wp2_with (first | (refine Gl 10 #[.slice A0 l0.length c0, .int .i64 a1] Try.func99 ?_; (with_reducible refine (impl_isAmount.calls k _ _ l0 a1 true _ (Cm HR0.out) HC0.out A3.out).mono ?_); rintro e w9 ⟨rfl, hb⟩; refine ⟨_, rfl, ?_⟩; replace HB := Aside0.mk (below_step Ub hb); clear hb) | (refine Gl 15 #[.slice A0 l0.length c0, .int .i64 a1] Try.func100 ?_; (with_reducible refine (impl_greedy.calls _ _ l0 a1 t331 false _ (Cm (Kd.C_below HR0.out HB.out)) HC0.out A5.out).mono ?_); rintro e w10 ⟨v333, rfl, ho0, hb⟩; refine ⟨_, rfl, ?_⟩; have HO334 := Aside0.mk (Kd.R_lower ho0 (below_size Ub)); replace HB := Aside0.mk (below_step Ub hb); clear hb ho0))
   go_ret2
   exact ⟨_, Re, Nl, Ub⟩
 simp only [Option.some.injEq, Prod.mk.injEq] at H
 obtain ⟨rfl, rfl⟩ := H
 go_enter Try.func13, Try.ntmps13
 go_wp2_with (first | (refine Gl 10 #[.slice A0 l0.length c0, .int .i64 a1] Try.func99 ?_; (with_reducible refine (impl_isAmount.calls k _ _ l0 a1 false _ (Cm HR0.out) HC0.out A3.out).mono ?_); rintro e w11 ⟨rfl, hb⟩; refine ⟨_, rfl, ?_⟩; replace HB := Aside0.mk (below_step Ub hb); clear hb))
 go_ret2
 exact ⟨_, Re, Nl, Ub⟩

/-! ### spec_cnGreedy: function 101 -/
def spec_cnGreedy.l0 : Nat → List Int → Int → List Int → Int → Option (List Int × Bool)
 | 0, _, _, _, _ => none
 | k + 1, x0, x1, x6, x7 => if x7 ≥ 0 then (if 0 ≤ x7 then (if x7 < (x0.length : Int) then (if (rd x0 x7) = 0 then (none) else (if x7 < (x6.length : Int) then (spec_cnGreedy.l0 k x0 (Int.tmod x1 (rd x0 x7)) (x6.set (x7 : Int).toNat (wrap64 (Int.tdiv x1 (rd x0 x7)))) (wrap64 (x7 - 1))) else (none))) else (none)) else (none)) else (some (x6, (x1 == 0)))
def spec_cnGreedy.f (k : Nat) (l0 : List Int) (a1 : Int) : Option (List Int × Bool) := if 0 ≤ (l0.length : Int) then (if ((l0.length : Int) : Int).toNat ≤ 35184372088832 then (spec_cnGreedy.l0 k l0 a1 (List.replicate ((l0.length : Int) : Int).toNat 0) (wrap64 ((l0.length : Int) - 1))) else (none)) else (none)
theorem spec_cnGreedy.calls (k : Nat) (A0 : Option Addr) (c0 : Nat) (l0 : List Int) (a1 : Int) (r1 : List Int) (r2 : Bool) (w : World) (hr0 : Kd.C (Kd.int .i64) w A0 l0.length l0) (hc0 : l0.length ≤ c0) (h : spec_cnGreedy.f k l0 a1 = some (r1, r2)) :
 Calls Try.prog 101 #[.slice A0 l0.length c0, .int .i64 a1] w fun e w' => ∃ v0_ : Value, e = .returned (.tuple #[v0_, .bool r2]) ∧ Kd.R (Kd.int .i64) 3 w' w.heap.size (fun _ => True) v0_ r1 ∧ Below w.heap.size w w' := by
 have HR0 := Aside0.mk hr0
 have HC0 := Aside0.mk hc0
 clear hr0 hc0
 have HB := Aside0.mk (Below.refl w.heap.size w)
 have H := h; unfold spec_cnGreedy.f at H
 clear h
 replace H := Ic H; rcases H with ⟨c3, H⟩ | ⟨c3, H⟩
 · have c3b0 := eq_true c3
   have c3b1 := decide_eq_true c3
   clear c3
   replace H := Ip H; obtain ⟨c4, H⟩ := H
   have c4b0 := eq_true c4
   have c4b1 := decide_eq_true c4
   clear c4
   obtain ⟨y335, hy335⟩ : ∃ y_ : List Int, y_ = (List.replicate ((l0.length : Int) : Int).toNat 0) := ⟨_, rfl⟩
   replace H : (spec_cnGreedy.l0 k l0 a1 y335 (wrap64 ((l0.length : Int) - 1))) = some (r1, r2) := by first | (rw [hy335]; with_reducible exact H) | (have H2_ := (Option.bind_some _ _).symm.trans H; rw [hy335]; with_reducible exact H2_) | (have H2_ := (Option.bind_some _ _).symm.trans H; with_reducible exact H2_) | with_reducible exact H | (rw [hy335]; exact H) | exact H
   have Ny335 := Aside0.mk hy335
   clear hy335
   have H' := Aside0.mk H
   clear H
   go_enter Try.func101, Try.ntmps101
   go_wp2_with (first | ((with_reducible refine gate_dst (N := 10) rfl ?_); refine Kd.R_make (Kd.int .i64) _ 3 rfl (N := 10) rfl 24 _ _ rfl (l0.length : Int) rfl rfl Try.underlying24 (.int .i64 0) 8 info3 rfl (by decide) (by omega) 0 (ok := fun _ => True) (okp := fun _ => True) rfl (fun _ hk => hk) trivial (Oa) (Nat.le_trans (Nat.mul_le_mul_right _ (Oa : (l0.length : Int).toNat ≤ 35184372088832)) (by omega)) (Below.refl _ _) (Nat.le_refl _) ?_; intro v336 w5 ho6 hb hg_ hnew_; clear hg_ hnew_; (first | rw [← Ny335.out] at ho6 | (simp only [Int.reduceToNat] at ho6; rw [← Ny335.out] at ho6)); have HO337 := Aside0.mk (Kd.R_lower ho6 (below_size Ub)); replace HB := Aside0.mk (below_step Ub hb); clear hb ho6))
   go_loopg [1, 7] k (fun kq v1 v7 w' => ∃ (x1_1 : Int) (x6_1 : List Int) (x7_1 : Int), v1 = .int .i64 x1_1 ∧ v7 = .int .i64 x7_1 ∧ Aside0 (spec_cnGreedy.l0 kq l0 x1_1 x6_1 x7_1 = some (r1, r2)) ∧ Aside0 (kq ≤ k) ∧ Aside0 (Kd.R (Kd.int .i64) 3 w' w.heap.size (fun _ => True) v336 x6_1) ∧ Aside0 (Below w.heap.size w w'))
   case atStart => exact ⟨(a1), (y335), (wrap64 ((l0.length : Int) - 1)), Rs, Rs, H', ⟨Nat.le_refl _⟩, ⟨Rm HO337.out⟩, ⟨Ub⟩⟩
   case round =>
    clear H'
    try clear c3
    try clear c3b0
    try clear c3b1
    try clear c4
    try clear c4b0
    try clear c4b1
    obtain ⟨x1_1, x6_1, x7_1, rfl, rfl, HA, HK1, HO_6, HB⟩ := hrel
    cases gk with
    | zero => exact absurd HA.out (by simp [spec_cnGreedy.l0])
    | succ k1 =>
     have H := HA.out
     clear HA
     simp only [spec_cnGreedy.l0] at H
     replace H := Ic H; rcases H with ⟨c7, H⟩ | ⟨c7, H⟩
     · have c7b0 : decide (0 ≤ x7_1) = true := decide_eq_true c7
       clear c7
       replace H := Ip H; obtain ⟨c8, H⟩ := H
       have c8b0 := decide_eq_true c8
       clear c8
       replace H := Ip H; obtain ⟨c9, H⟩ := H
       have c9b0 := decide_eq_true c9
       clear c9
       replace H := Ic H; rcases H with ⟨c10, H⟩ | ⟨c10, H⟩
       · exact absurd H (by simp)
       have c10b0 : ((rd l0 x7_1) == 0) = false := beq_eq_false_iff_ne.mpr c10
       have c10b1 := bne_iff_ne.mpr c10
       replace H := Ip H; obtain ⟨c11, H⟩ := H
       have c11b0 := decide_eq_true c11
       clear c11
       obtain ⟨y339, hy339⟩ : ∃ y_ : List Int, y_ = (x6_1.set (x7_1 : Int).toNat (wrap64 (Int.tdiv x1_1 (rd l0 x7_1)))) := ⟨_, rfl⟩
       replace H : (spec_cnGreedy.l0 k1 l0 (Int.tmod x1_1 (rd l0 x7_1)) y339 (wrap64 (x7_1 - 1))) = some (r1, r2) := by first | (rw [hy339]; with_reducible exact H) | (have H2_ := (Option.bind_some _ _).symm.trans H; rw [hy339]; with_reducible exact H2_) | (have H2_ := (Option.bind_some _ _).symm.trans H; with_reducible exact H2_) | with_reducible exact H | (rw [hy339]; exact H) | exact H
       have Ny339 := Aside0.mk hy339
       clear hy339
       have H' := Aside0.mk H
       clear H
       obtain ⟨p338, q338, ad338, e338, hx338_0⟩ := Ai HR0.out x7_1
       cases e338
       replace hx338_0 := (HB.out.cell (World.block_lt_of_cell? w _ hx338_0)).trans hx338_0
       have p12 : 0 ≤ (x7_1 : Int) := Oa
       have q12 : (x7_1 : Int) < ((x6_1.length : Int) : Int) := Oa
       obtain ⟨go12, co12, eo12, gb12, gl12, cl12, HG12⟩ := Kd.R_form HO_6.out (by omega)
       (first | cases eo12 | (injection eo12 with ea_ en_ ec_; (first | subst ea_ | (injection ea_ with ea_; subst ea_)); subst ec_; clear en_))
       have GB12 := Aside0.mk gb12
       have GG12 := Aside0.mk HG12
       clear gb12 gl12 HG12
       obtain ⟨hx12_0, hf12_0⟩ := Kd.R_celln 0 HO_6.out (x7_1 : Int) p12 q12
       replace p12 := eq_true p12
       replace q12 := eq_true q12
       have HP13 := Kd.R_putg HO_6.out (x7_1 : Int) (wrap64 (Int.tdiv x1_1 (rd l0 x7_1)))
       go_wp2_with (first | ((with_reducible refine gate_store (t := 3) (p := 26) rfl ?_); refine store_event (t := 3) (p := 26) (v := ?vo_w14) (w1 := (wr.setCell ⟨go12, (x7_1 : Int).toNat, none⟩ (.int .i64 (wrap64 (Int.tdiv x1_1 (rd l0 x7_1)))))) ?hg ?ho ?hn ?hr ?_; (case ho => rfl); (case hg => rfl); (case hn => rfl); (case hr => first | (go_simp; done) | (go_simp; rfl)); intro w14 hw; have hg : wr.grownBy w14 (some go12) := (by rw [hw]; exact HP13.2); have hp_ : Kd.R (Kd.int .i64) 3 w14 w.heap.size (fun _ => True) (.slice (some ⟨go12, 0, none⟩) x6_1.length co12) y339 := (by rw [hw, Ny339.out]; exact HP13.1); clear HP13; replace HO_6 := Aside0.mk (hp_); replace HB := Aside0.mk ((by rw [hw]; exact below_set (HB.out) GB12.out : Below w.heap.size w w14)); clear hg hw hp_; have p340 : 0 ≤ (x7_1 : Int) := Oa; have q340 : x7_1 < (l0.length : Int) := Oa; obtain ⟨ad340, e340, hx340_0⟩ := Kd.at_int HR0.out x7_1 p340 q340; obtain rfl : ad338 = ad340 := (by injection e340); replace hx340_0 := (HB.out.cell (World.block_lt_of_cell? w _ hx340_0)).trans hx340_0; replace p340 := eq_true p340; replace q340 := eq_true q340))
       go_roundg k1
       case measure => have := HK1.out; omega
       case rel => exact ⟨(Int.tmod x1_1 (rd l0 x7_1)), (y339), (wrap64 (x7_1 - 1)), Rs, Rs, H', ⟨by have := HK1.out; omega⟩, ⟨Rm HO_6.out⟩, ⟨Ub⟩⟩
     have c7b0 : decide (0 ≤ x7_1) = false := decide_eq_false c7
     clear c7
     simp only [Option.some.injEq, Prod.mk.injEq] at H
     obtain ⟨rfl, rfl⟩ := H
     go_wp2
     go_ret2
     exact ⟨_, Re, Rm HO_6.out, Ub⟩
 exact absurd H (by simp)

/-! ### spec_GreedyChange: function 14 -/
def spec_GreedyChange.f (k : Nat) (l0 : List Int) (a1 : Int) : Option (List Int × Bool) := (spec_cnAsked.f k l0 a1).bind fun t341 => (if t341 = true then ((spec_cnGreedy.f k l0 a1).bind fun bt342 => (if bt342.2 = true then (some (bt342.1, true)) else (some (([] : List Int), false)))) else (some (([] : List Int), false)))
theorem spec_GreedyChange.calls (k : Nat) (A0 : Option Addr) (c0 : Nat) (l0 : List Int) (a1 : Int) (r1 : List Int) (r2 : Bool) (w : World) (hr0 : Kd.C (Kd.int .i64) w A0 l0.length l0) (hc0 : l0.length ≤ c0) (h : spec_GreedyChange.f k l0 a1 = some (r1, r2)) :
 Calls Try.prog 14 #[.slice A0 l0.length c0, .int .i64 a1] w fun e w' => ∃ v0_ : Value, e = .returned (.tuple #[v0_, .bool r2]) ∧ Kd.R (Kd.int .i64) 3 w' w.heap.size (fun _ => True) v0_ r1 ∧ Below w.heap.size w w' := by
 have HR0 := Aside0.mk hr0
 have HC0 := Aside0.mk hc0
 clear hr0 hc0
 have HB := Aside0.mk (Below.refl w.heap.size w)
 have H := h; unfold spec_GreedyChange.f at H
 clear h
 replace H := Option.bind_eq_some_iff.mp H
 obtain ⟨t341, A30, H⟩ := H
 have A3 := Aside0.mk A30
 clear A30
 replace H := Iw H; rcases H with ⟨rfl, H⟩ | ⟨rfl, H⟩
 · replace H := Option.bind_eq_some_iff.mp H
   obtain ⟨⟨t342, t343⟩, A50, H⟩ := H
   have A5 := Aside0.mk A50
   clear A50
   replace H := Iw H; rcases H with ⟨rfl, H⟩ | ⟨rfl, H⟩
   · simp only [Option.some.injEq, Prod.mk.injEq] at H
     obtain ⟨rfl, rfl⟩ := H
     go_enter Try.func14, Try.ntmps14
     go_wp2_with (first | (refine Gl 10 #[.slice A0 l0.length c0, .int .i64 a1] Try.func96 ?_; (with_reducible refine (spec_cnAsked.calls k _ _ l0 a1 true _ (Cm HR0.out) HC0.out A3.out).mono ?_); rintro e w' ⟨rfl, ⟨nd, rfl⟩⟩; refine ⟨_, rfl, ?_⟩) | (refine Gl 15 #[.slice A0 l0.length c0, .int .i64 a1] Try.func101 ?_; (with_reducible refine (spec_cnGreedy.calls k _ _ l0 a1 t342 true _ (Cm HR0.out) HC0.out A5.out).mono ?_); rintro e w7 ⟨v344, rfl, ho0, hb⟩; refine ⟨_, rfl, ?_⟩; have HO345 := Aside0.mk (Kd.R_lower ho0 (below_size Ub)); replace HB := Aside0.mk (below_step Ub hb); clear hb ho0))
     go_ret2
     exact ⟨_, Re, Rm HO345.out, Ub⟩
   simp only [Option.some.injEq, Prod.mk.injEq] at H
   obtain ⟨rfl, rfl⟩ := H
   go_enter Try.func14, Try.ntmps14
   go_wp2_with (first | (refine Gl 10 #[.slice A0 l0.length c0, .int .i64 a1] Try.func96 ?_; (with_reducible refine (spec_cnAsked.calls k _ _ l0 a1 true _ (Cm HR0.out) HC0.out A3.out).mono ?_); rintro e w' ⟨rfl, ⟨nd, rfl⟩⟩; refine ⟨_, rfl, ?_⟩) | (refine Gl 15 #[.slice A0 l0.length c0, .int .i64 a1] Try.func101 ?_; (with_reducible refine (spec_cnGreedy.calls k _ _ l0 a1 t342 false _ (Cm HR0.out) HC0.out A5.out).mono ?_); rintro e w8 ⟨v344, rfl, ho0, hb⟩; refine ⟨_, rfl, ?_⟩; have HO345 := Aside0.mk (Kd.R_lower ho0 (below_size Ub)); replace HB := Aside0.mk (below_step Ub hb); clear hb ho0))
   go_ret2
   exact ⟨_, Re, Nl, Ub⟩
 simp only [Option.some.injEq, Prod.mk.injEq] at H
 obtain ⟨rfl, rfl⟩ := H
 go_enter Try.func14, Try.ntmps14
 go_wp2_with (first | (refine Gl 10 #[.slice A0 l0.length c0, .int .i64 a1] Try.func96 ?_; (with_reducible refine (spec_cnAsked.calls k _ _ l0 a1 false _ (Cm HR0.out) HC0.out A3.out).mono ?_); rintro e w' ⟨rfl, ⟨nd, rfl⟩⟩; refine ⟨_, rfl, ?_⟩))
 go_ret2
 exact ⟨_, Re, Nl, Ub⟩

/-! ### impl_total: function 102 -/
def impl_total.l0 : Nat → Int → List Int → Int → Int → Option (Int)
 | 0, _, _, _, _ => none
 | k + 1, x3, x6, x7, x8 => if x8 < x7 then (if 0 ≤ x8 then (if x8 < (x6.length : Int) then (impl_total.l0 k (wrap64 (x3 + (rd x6 x8))) x6 x7 (wrap64 (x8 + 1))) else (none)) else (none)) else (some x3)
def impl_total.f (k : Nat) (l0 : List Int) : Option (Int) := impl_total.l0 k 0 l0 (l0.length : Int) 0
theorem impl_total.calls (k : Nat) (A0 : Option Addr) (c0 : Nat) (l0 : List Int) (r : Int) (w : World) (hr0 : Kd.C (Kd.int .i64) w A0 l0.length l0) (hc0 : l0.length ≤ c0) (h : impl_total.f k l0 = some r) :
 Calls Try.prog 102 #[.slice A0 l0.length c0] w fun e w' => e = .returned (.int .i64 r) ∧ Drawn0 w w' := by
 have HR0 := Aside0.mk hr0
 have HC0 := Aside0.mk hc0
 clear hr0 hc0
 have H := h; unfold impl_total.f at H
 clear h
 have H' := Aside0.mk H
 clear H
 go_enter Try.func102, Try.ntmps102
 go_wp2
 go_loopg [3, 8] k (fun kq v3 v8 w' => ∃ (x3_1 : Int) (x8_1 : Int), v3 = .int .i64 x3_1 ∧ v8 = .int .i64 x8_1 ∧ Aside0 (impl_total.l0 kq x3_1 l0 (l0.length : Int) x8_1 = some r) ∧ Aside0 (kq ≤ k) ∧ Drawn0 w w')
 case atStart => exact ⟨(0), (0), Rs, Rs, H', ⟨Nat.le_refl _⟩, Dr⟩
 case round =>
  clear H'
  obtain ⟨x3_1, x8_1, rfl, rfl, HA, HK1, ⟨m1, rfl⟩⟩ := hrel
  cases gk with
  | zero => exact absurd HA.out (by simp [impl_total.l0])
  | succ k1 =>
   have H := HA.out
   clear HA
   simp only [impl_total.l0] at H
   replace H := Ic H; rcases H with ⟨c2, H⟩ | ⟨c2, H⟩
   · have c2b0 := decide_eq_true c2
     clear c2
     replace H := Ip H; obtain ⟨c3, H⟩ := H
     have c3b0 := decide_eq_true c3
     clear c3
     replace H := Ip H; obtain ⟨c4, H⟩ := H
     have c4b0 := decide_eq_true c4
     clear c4
     have H' := Aside0.mk H
     clear H
     obtain ⟨p346, q346, ad346, e346, hx346_0⟩ := Ai HR0.out x8_1
     cases e346
     go_wp2
     go_roundg k1
     case measure => have := HK1.out; omega
     case rel => exact ⟨(wrap64 (x3_1 + (rd l0 x8_1))), (wrap64 (x8_1 + 1)), Rs, Rs, H', ⟨by have := HK1.out; omega⟩, Dr⟩
   have c2b0 := decide_eq_false c2
   clear c2
   obtain rfl := Option.some.inj H
   go_wp2
   go_ret
   exact ⟨Rs, Dr⟩

/-! ### impl_GreedyCount: function 15 -/
def impl_GreedyCount.f (k : Nat) (l0 : List Int) (a1 : Int) : Option (Int × Bool) := (impl_GreedyChange.f k l0 a1).bind fun bt347 => ((impl_total.f k bt347.1).bind fun t351 => (some (t351, bt347.2)))
theorem impl_GreedyCount.calls (k : Nat) (A0 : Option Addr) (c0 : Nat) (l0 : List Int) (a1 : Int) (r1 : Int) (r2 : Bool) (w : World) (hr0 : Kd.C (Kd.int .i64) w A0 l0.length l0) (hc0 : l0.length ≤ c0) (h : impl_GreedyCount.f k l0 a1 = some (r1, r2)) :
 Calls Try.prog 15 #[.slice A0 l0.length c0, .int .i64 a1] w fun e w' => e = .returned (.tuple #[.int .i64 r1, .bool r2]) ∧ Below w.heap.size w w' := by
 have HR0 := Aside0.mk hr0
 have HC0 := Aside0.mk hc0
 clear hr0 hc0
 have HB := Aside0.mk (Below.refl w.heap.size w)
 have H := h; unfold impl_GreedyCount.f at H
 clear h
 replace H := Option.bind_eq_some_iff.mp H
 obtain ⟨⟨t347, t348⟩, A30, H⟩ := H
 have A3 := Aside0.mk A30
 clear A30
 replace H := Option.bind_eq_some_iff.mp H
 obtain ⟨t351, A40, H⟩ := H
 have A4 := Aside0.mk A40
 clear A40
 simp only [Option.some.injEq, Prod.mk.injEq] at H
 obtain ⟨rfl, rfl⟩ := H
 go_enter Try.func15, Try.ntmps15
 go_wp2_with (first | (refine Gl 11 #[.slice A0 l0.length c0, .int .i64 a1] Try.func13 ?_; (with_reducible refine (impl_GreedyChange.calls k _ _ l0 a1 t347 t348 _ (Cm HR0.out) HC0.out A3.out).mono ?_); rintro e w5 ⟨v349, rfl, ho0, hb⟩; refine ⟨_, rfl, ?_⟩; have HO350 := Aside0.mk (Kd.R_lower ho0 (below_size Ub)); replace HB := Aside0.mk (below_step Ub hb); clear hb ho0; obtain ⟨Ao6, co6, eo6⟩ := Kd.R_slice HO350.out; subst eo6) | (refine Gl 15 #[.slice Ao6 t347.length co6] Try.func102 ?_; (with_reducible refine (impl_total.calls k _ _ t347 t351 _ (Cm (Kd.R_reads' HO350.out).2.2) ((Kd.R_reads' HO350.out).2.1) A4.out).mono ?_); rintro e w' ⟨rfl, ⟨nd, rfl⟩⟩; refine ⟨_, rfl, ?_⟩))
 go_ret2
 exact ⟨Re, Ub⟩

end Go.Proofs.Ytjjajbgijncfoaa.PFnChangeGiven
