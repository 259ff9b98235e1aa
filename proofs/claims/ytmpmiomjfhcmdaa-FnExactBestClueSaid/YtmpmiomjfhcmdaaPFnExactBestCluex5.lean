-- MADE FOR THIS CLAIM by wip/xp/xprint.py (with the kit's print; some functions' contracts proved by hand)
import Derived.Test.YtmpmiomjfhcmdaaPFnExactBestCluex0
import Derived.Test.YtmpmiomjfhcmdaaPFnExactBestCluex2
import Derived.Test.YtmpmiomjfhcmdaaPFnExactBestCluex4
namespace Go.Proofs.Ytmpmiomjfhcmdaa.PFnExactBestClue
open Go.RowKit Go.Proofs.YtmpmiomjfhcmdaaW.PrintWords Go.Proofs.YtmpmiomjfhcmdaaW.PrintLast Go.Proofs.YtmpmiomjfhcmdaaW.PrintMore
attribute [local go_sem] max2_int min2_int max_two min_two max_three min_three max_four min_four   -- for this text's walks alone
set_option linter.unusedVariables false
set_option linter.unusedSimpArgs false

/-! ### spec_pzLook: function 92 -/
-- GIVEN loop.example/g01305/spec.pzLook raw=1
-- USES hidden idxO
/-- The piece from which a list goes on. -/
def fromOf (l : List Int) : Int := l.getLast?.getD 1
theorem fromOf_snoc (l : List Int) (q : Int) : fromOf (l ++ [q]) = q := by unfold fromOf; rw [List.getLast?_append]; rfl
theorem fromOf_rd (l : List Int) (h : 0 < l.length) : rd l ((l.length : Int) - 1) = fromOf l := by
  unfold fromOf rd
  rw [List.getLast?_eq_getElem?, show ((l.length : Int) - 1).toNat = l.length - 1 by omega, List.getD_eq_getElem?_getD, List.getElem?_eq_getElem (by omega)]
  rfl
/-- The first clue that a list does not fit, or -1. -/
def badS (k : Nat) (cs : List S77) (l : List Int) : Option Int := idxO (fun x : S77 => (spec_pzFits.f k x.f0 x.f1 x.f2 l).bind fun t => some (!t)) cs 0
theorem badS_mono (k : Nat) (cs : List S77) (l : List Int) : LeO (badS k cs l) (badS (k + 1) cs l) := idxO_le (fun x => LeO.bind (spec_pzFits.mono _ _ _ _ k) (fun _ => LeO.refl _)) _ _
def fitS (k : Nat) (cs : List S77) (l : List Int) : Bool := !(decide (0 ≤ (badS k cs l).getD 0))

/-- What a look has done. -/
def LookP (gO : Nat) (base : Nat) (w0 w : World) (v0 : Value) (tot : List (List Int)) (w' : World) : Prop :=
  ∃ v', w'.heap[gO]? = some (.cells #[v'] 22 (0, 0)) ∧ Kd.S (Kd.slice 3 (Kd.int .i64)) 26 w' base (fun _ => True) v' tot ∧ Kept w w' (fun k => k = gO ∨ some k = v0.ownBlock) ∧ (∀ k, v'.ownBlock = some k → v0.ownBlock = some k ∨ w.heap.size ≤ k) ∧ Below base w0 w'

set_option maxHeartbeats 4000000 in
set_option maxRecDepth 100000 in
theorem pzLook_calls (k : Nat) (Ac : Option Addr) (cc : Nat) (cs : List S77) (gO : Nat) (w0 : World) (hbO : w0.heap.size ≤ gO) (hCc : Kd.C k77 w0 Ac cs.length cs) (hcc : cs.length ≤ cc) : ∀ (d : Nat) (A : Option Addr) (c : Nat) (l : List Int) (v : Value) (xs : List (List Int)) (w : World),
    l.length + d = 4 → (∀ l' ∈ hidL d l (fromOf l), (badS k cs l').isSome = true) → 1 ≤ fromOf l → fromOf l ≤ 6 → (xs ++ (hidL d l (fromOf l)).filter (fitS k cs)).length ≤ 1000000 →
    w.heap[gO]? = some (.cells #[v] 22 (0, 0)) →
    Below w0.heap.size w0 w →
    Kd.S (Kd.slice 3 (Kd.int .i64)) 26 w w0.heap.size (fun k => some k ≠ (Value.slice A l.length c).ownBlock) v xs →
    Kd.R (Kd.int .i64) 3 w w0.heap.size (fun _ => True) (.slice A l.length c) l →
    Calls Try.prog 92 #[.slice Ac cs.length cc, .slice A l.length c, .pointer (some ⟨gO, 0, none⟩)] w fun e w' => e = .returned (.tuple #[]) ∧ LookP gO w0.heap.size w0 w v (xs ++ (hidL d l (fromOf l)).filter (fitS k cs)) w' := by
  intro d
  induction d with
  | zero =>
    intro A c l v xs w hl hsome hp1 hp6 hlen hO hB hS hR
    have HO := Aside0.mk hO
    have HB := Aside0.mk hB
    have HS := Aside0.mk hS
    have HR := Aside0.mk hR
    have HL := Aside0.mk hlen
    have HSO := Aside0.mk hsome
    have HC0 := Aside0.mk hCc
    obtain ⟨r, hr⟩ := Option.isSome_iff_exists.1 (hsome l (by simp [hidL]))
    have HR0 := Aside0.mk hr
    have hfit : fitS k cs l = !(decide (0 ≤ r)) := by unfold fitS; rw [hr]; rfl
    have HF := Aside0.mk hfit
    have hbig : cs.length ≤ 9223372036854775807 := hCc.2.1
    clear hO hB hS hR hlen hsome hr hfit hCc
    go_enter Try.func92, Try.ntmps92
    go_wp2
    go_loopg [6, 13] cs.length (fun gg s6 s13 wr => ∃ (b : Bool) (kk : Int), s6 = .bool b ∧ s13 = .int .i64 kk ∧ Aside0 (0 ≤ kk ∧ kk ≤ cs.length ∧ cs.length - kk ≤ gg) ∧ Aside0 (Below w.heap.size w wr) ∧ Aside0 (b = true ∧ idxO (fun x : S77 => (spec_pzFits.f k x.f0 x.f1 x.f2 l).bind fun t => some (!t)) (cs.drop kk.toNat) kk = some r ∨ b = false ∧ 0 ≤ r))
    case atStart => exact ⟨true, 0, by simp, by simp, ⟨by omega⟩, ⟨Below.refl _ w⟩, ⟨.inl ⟨rfl, HR0.out⟩⟩⟩
    case round =>
      obtain ⟨b, kk, rfl, rfl, HK, HBr, HA⟩ := hrel
      have ⟨hk0, hk1, hk2⟩ := HK.out
      by_cases hlt : kk < (cs.length : Int)
      · obtain ⟨ad, e1, hx0, hx1, hx2⟩ := at_T77 (Kd.C_below HC0.out (below_then HB.out HB.out.size HBr.out)) kk hk0 hlt
        cases e1
        have hlt0 := decide_eq_true hlt
        have hlt1 := eq_true hlt
        have hk01 := eq_true hk0
        have HRl := Aside0.mk (Kd.R_reads' (Kd.R_below HR.out HBr.out))
        cases b with
        | false =>
          have h0r : Aside0 (0 ≤ r) := ⟨by rcases HA.out with ⟨h, _⟩ | ⟨_, h⟩; cases h; exact h⟩
          clear hk2 hk1
          go_wp2
          go_roundg (gk - 1)
          case measure => have := HK.out; omega
          case rel =>
            have hK := HK.out
            exact ⟨false, kk + 1, rfl, (by first | rfl | rw [show wrap64 (kk + 1) = kk + 1 by unfold wrap64; omega]), ⟨by omega⟩, ⟨below_alloc HBr.out _⟩, ⟨.inr ⟨rfl, h0r.out⟩⟩⟩
        | true =>
          have h1 : idxO (fun x : S77 => (spec_pzFits.f k x.f0 x.f1 x.f2 l).bind fun t => some (!t)) (cs.drop kk.toNat) kk = some r := by rcases HA.out with ⟨_, h⟩ | ⟨h, _⟩; exact h; cases h
          rw [idxO_drop _ z77 cs kk hk0 hlt] at h1
          obtain ⟨t', ht', h1⟩ := Option.bind_eq_some_iff.1 h1
          obtain ⟨t, ht, e2⟩ := Option.bind_eq_some_iff.1 ht'
          obtain rfl := Option.some.inj e2
          have HT := Aside0.mk (show spec_pzFits.f k (rd_T77 cs kk).f0 (rd_T77 cs kk).f1 (rd_T77 cs kk).f2 l = some t from ht)
          have H1 := Aside0.mk h1
          clear h1 ht' ht e2 hk2 hk1
          go_wp2_with (first | ((try (refine gate_guard (by rfl) ?_; dsimp only)); go_at_call 116; refine (spec_pzFits.calls k (rd_T77 cs kk).f0 (rd_T77 cs kk).f1 (rd_T77 cs kk).f2 A c l t _ (Kd.C_alloc HRl.out.2.2 _) HRl.out.2.1 HT.out).mono ?_; rintro e w6 ⟨rfl, hb6⟩))
          go_roundg (gk - 1)
          case measure => have := HK.out; omega
          case rel =>
            have hK := HK.out
            refine ⟨t, kk + 1, (by first | rfl | simp), (by first | rfl | rw [show wrap64 (kk + 1) = kk + 1 by unfold wrap64; omega]), ⟨by omega⟩, ⟨below_step (below_alloc HBr.out _) hb6⟩, ⟨?_⟩⟩
            cases t with
            | true => exact .inl ⟨rfl, H1.out⟩
            | false => exact .inr ⟨rfl, by have e := Option.some.inj H1.out; omega⟩
      · have hlt0 := decide_eq_false hlt
        have hlt1 := eq_false hlt
        have hl4 : ((l.length : Int) == 4) = true := by simp; omega
        have HO1 := Aside0.mk (blk_below HO.out HBr.out)
        have HS1 := Aside0.mk (Kd.S_below HS.out HBr.out)
        have HRR := Aside0.mk (Kd.R_below HR.out HBr.out)
        have HB1 := Aside0.mk (below_then HB.out HB.out.size HBr.out)
        have hcO : wr.cell? ⟨gO, 0, none⟩ = some v := (blk_cell HO1.out 0).trans rfl
        clear hk2
        cases b with
        | true =>
          have hrm : r = -1 := by
            rcases HA.out with ⟨_, h⟩ | ⟨h, _⟩
            · rw [List.drop_of_length_le (by omega), idxO] at h; exact (Option.some.inj h).symm
            · cases h
          have HFT : Aside0 (fitS k cs l = true) := ⟨by rw [HF.out, hrm]; rfl⟩
          clear hrm
          go_wp2_with ((with_reducible refine gate_builtin (b := .append) (xs := #[.tmp 28, .tmp 30]) rfl ?_); at_builtin; refine Aside0.out ?_)
          refine Aside0.mk ?_
          refine Kd.S_append (Kd.slice 3 (Kd.int .i64)) (w0 := w0) w0.heap.size rfl (.tmp 28) (.tmp 30) 22 26 (.slice none 0 0) 24 rfl Try.underlying22 info26 rfl (by decide) (by omega) v xs l [.slice A l.length c] (fun _ => True) (fun k => some k = (Value.slice A l.length c).ownBlock) rfl (by first | (go_simp; done) | (go_simp; rfl)) ?aP ?aK ?aF ?aO ?aB ?aS ?aL ?_
          (case aP => exact Kd.M_row (Kd.R_mono (Kd.R_tight rfl HRR.out) (fun _ h_ => h_)))
          (case aK => intro k hk; refine ⟨trivial, fun e => ?_⟩; obtain ⟨cs1, h1⟩ := Kd.R_typed HRR.out k hk.symm; obtain ⟨cs2, h2⟩ := Kd.S_typed HS1.out k e.symm; rw [h1] at h2; cases h2)
          (case aF => exact fun _ _ => trivial)
          (case aO => exact (Kd.S_mono HS1.out (fun k hk => ⟨trivial, hk⟩)))
          (case aB => exact HB1.out)
          (case aS => exact HB1.out.size)
          (case aL => have := HL.out; simp [hidL, HFT.out] at this; omega)
          intro v1 w1 ho hb hg hat
          obtain ⟨A1, c1, rfl⟩ := Kd.S_slice ho
          generalize hn1 : (xs ++ [l]).length = n1 at *
          have hne := Kd.S_ne HS1.out HO1.out (by decide)
          have hOg := blk_grown HO1.out hg hne
          have hcO1 : w1.cell? ⟨gO, 0, none⟩ = some v := (blk_cell hOg 0).trans rfl
          have hfO1 := blk_frozen hOg 0
          have HO2 := Aside0.mk (blk_put hOg 0 (.slice A1 n1 c1) (cs' := #[.slice A1 n1 c1]) rfl)
          have HS2 := Aside0.mk (Kd.S_set ho hOg (by decide) 0 (.slice A1 n1 c1))
          have HK2 := Aside0.mk (Kept.setCell (p := ⟨gO, 0, none⟩) (Kept.of_grown hg (Kept.of_below HBr.out (fun k => k = gO ∨ some k = v.ownBlock)) (fun k e => .inl (.inr e.symm))) (.inl (.inl rfl)) (.slice A1 n1 c1))
          have HB2 := Aside0.mk (Below.setCell hb (p := ⟨gO, 0, none⟩) hbO (.slice A1 n1 c1))
          have HT2 : Aside0 (∀ k, (Value.slice A1 n1 c1).ownBlock = some k → v.ownBlock = some k ∨ w.heap.size ≤ k) := ⟨fun k e => by
            rcases hat with h | ⟨b, h, hb⟩
            · exact .inl (h ▸ e)
            · rw [h] at e; cases e; exact .inr (Nat.le_trans HBr.out.size hb)⟩
          clear hb ho hg hat hcO hOg HA HF HO1 HS1 HRR HB1
          go_wp2
          refine bodyPost_ret (results_none rfl _ _ _) rfl ?_
          exact ⟨rfl, _, HO2.out, by rw [show (hidL 0 l (fromOf l)).filter (fitS k cs) = [l] from by show [l].filter _ = _; rw [List.filter_cons, HFT.out]; rfl]; exact HS2.out, HK2.out, HT2.out, HB2.out⟩
        | false =>
          have h0r : 0 ≤ r := by rcases HA.out with ⟨h, _⟩ | ⟨_, h⟩; cases h; exact h
          have HFT : Aside0 (fitS k cs l = false) := ⟨by rw [HF.out, decide_eq_true h0r]; rfl⟩
          clear h0r
          have HO2 := HO1
          have HS2 := Aside0.mk (Kd.S_mono (ok' := fun _ => True) HS1.out (fun _ _ => trivial))
          have HK2 := Aside0.mk (Kept.of_below HBr.out (fun k => k = gO ∨ some k = v.ownBlock))
          have HB2 := HB1
          have HT2 : Aside0 (∀ k, v.ownBlock = some k → v.ownBlock = some k ∨ w.heap.size ≤ k) := ⟨fun k e => .inl e⟩
          clear hcO HA HF HO1 HS1 HRR HB1
          go_wp2
          refine bodyPost_ret (results_none rfl _ _ _) rfl ?_
          exact ⟨rfl, _, HO2.out, by rw [show (hidL 0 l (fromOf l)).filter (fitS k cs) = [] from by show [l].filter _ = _; rw [List.filter_cons, HFT.out]; rfl]; exact (by rw [List.append_nil]; exact HS2.out), HK2.out, HT2.out, HB2.out⟩
  | succ d ih =>
    intro A c l v xs w hl hsome hp1 hp6 hlen hO hB hS hR
    have HO := Aside0.mk hO
    have HB := Aside0.mk hB
    have HS := Aside0.mk hS
    have HR := Aside0.mk hR
    have HL := Aside0.mk hlen
    have IH := Aside0.mk ih
    have HSO := Aside0.mk hsome
    have HC0 := Aside0.mk hCc
    obtain ⟨r, hr⟩ := Option.isSome_iff_exists.1 (hsome l (by simp [hidL]))
    have HR0 := Aside0.mk hr
    have hfit : fitS k cs l = !(decide (0 ≤ r)) := by unfold fitS; rw [hr]; rfl
    have HF := Aside0.mk hfit
    have hbig : cs.length ≤ 9223372036854775807 := hCc.2.1
    clear hO hB hS hR hlen ih hsome hr hfit hCc
    go_enter Try.func92, Try.ntmps92
    go_wp2
    go_loopg [6, 13] cs.length (fun gg s6 s13 wr => ∃ (b : Bool) (kk : Int), s6 = .bool b ∧ s13 = .int .i64 kk ∧ Aside0 (0 ≤ kk ∧ kk ≤ cs.length ∧ cs.length - kk ≤ gg) ∧ Aside0 (Below w.heap.size w wr) ∧ Aside0 (b = true ∧ idxO (fun x : S77 => (spec_pzFits.f k x.f0 x.f1 x.f2 l).bind fun t => some (!t)) (cs.drop kk.toNat) kk = some r ∨ b = false ∧ 0 ≤ r))
    case atStart => exact ⟨true, 0, by simp, by simp, ⟨by omega⟩, ⟨Below.refl _ w⟩, ⟨.inl ⟨rfl, HR0.out⟩⟩⟩
    case round =>
      obtain ⟨b, kk, rfl, rfl, HK, HBr, HA⟩ := hrel
      have ⟨hk0, hk1, hk2⟩ := HK.out
      by_cases hlt : kk < (cs.length : Int)
      · obtain ⟨ad, e1, hx0, hx1, hx2⟩ := at_T77 (Kd.C_below HC0.out (below_then HB.out HB.out.size HBr.out)) kk hk0 hlt
        cases e1
        have hlt0 := decide_eq_true hlt
        have hlt1 := eq_true hlt
        have hk01 := eq_true hk0
        have HRl := Aside0.mk (Kd.R_reads' (Kd.R_below HR.out HBr.out))
        cases b with
        | false =>
          have h0r : Aside0 (0 ≤ r) := ⟨by rcases HA.out with ⟨h, _⟩ | ⟨_, h⟩; cases h; exact h⟩
          clear hk2 hk1
          go_wp2
          go_roundg (gk - 1)
          case measure => have := HK.out; omega
          case rel =>
            have hK := HK.out
            exact ⟨false, kk + 1, rfl, (by first | rfl | rw [show wrap64 (kk + 1) = kk + 1 by unfold wrap64; omega]), ⟨by omega⟩, ⟨below_alloc HBr.out _⟩, ⟨.inr ⟨rfl, h0r.out⟩⟩⟩
        | true =>
          have h1 : idxO (fun x : S77 => (spec_pzFits.f k x.f0 x.f1 x.f2 l).bind fun t => some (!t)) (cs.drop kk.toNat) kk = some r := by rcases HA.out with ⟨_, h⟩ | ⟨h, _⟩; exact h; cases h
          rw [idxO_drop _ z77 cs kk hk0 hlt] at h1
          obtain ⟨t', ht', h1⟩ := Option.bind_eq_some_iff.1 h1
          obtain ⟨t, ht, e2⟩ := Option.bind_eq_some_iff.1 ht'
          obtain rfl := Option.some.inj e2
          have HT := Aside0.mk (show spec_pzFits.f k (rd_T77 cs kk).f0 (rd_T77 cs kk).f1 (rd_T77 cs kk).f2 l = some t from ht)
          have H1 := Aside0.mk h1
          clear h1 ht' ht e2 hk2 hk1
          go_wp2_with (first | ((try (refine gate_guard (by rfl) ?_; dsimp only)); go_at_call 116; refine (spec_pzFits.calls k (rd_T77 cs kk).f0 (rd_T77 cs kk).f1 (rd_T77 cs kk).f2 A c l t _ (Kd.C_alloc HRl.out.2.2 _) HRl.out.2.1 HT.out).mono ?_; rintro e w6 ⟨rfl, hb6⟩))
          go_roundg (gk - 1)
          case measure => have := HK.out; omega
          case rel =>
            have hK := HK.out
            refine ⟨t, kk + 1, (by first | rfl | simp), (by first | rfl | rw [show wrap64 (kk + 1) = kk + 1 by unfold wrap64; omega]), ⟨by omega⟩, ⟨below_step (below_alloc HBr.out _) hb6⟩, ⟨?_⟩⟩
            cases t with
            | true => exact .inl ⟨rfl, H1.out⟩
            | false => exact .inr ⟨rfl, by have e := Option.some.inj H1.out; omega⟩
      · have hlt0 := decide_eq_false hlt
        have hlt1 := eq_false hlt
        have hl4 : ((l.length : Int) == 4) = false := by simp; omega
        have HO1 := Aside0.mk (blk_below HO.out HBr.out)
        have HS1 := Aside0.mk (Kd.S_below HS.out HBr.out)
        have HRR := Aside0.mk (Kd.R_below HR.out HBr.out)
        have HB1 := Aside0.mk (below_then HB.out HB.out.size HBr.out)
        have hcO : wr.cell? ⟨gO, 0, none⟩ = some v := (blk_cell HO1.out 0).trans rfl
        clear hk2
        cases b with
        | true =>
          have hrm : r = -1 := by
            rcases HA.out with ⟨_, h⟩ | ⟨h, _⟩
            · rw [List.drop_of_length_le (by omega), idxO] at h; exact (Option.some.inj h).symm
            · cases h
          have HFT : Aside0 (fitS k cs l = true) := ⟨by rw [HF.out, hrm]; rfl⟩
          clear hrm
          go_wp2_with ((with_reducible refine gate_builtin (b := .append) (xs := #[.tmp 28, .tmp 30]) rfl ?_); at_builtin; refine Aside0.out ?_)
          refine Aside0.mk ?_
          refine Kd.S_append (Kd.slice 3 (Kd.int .i64)) (w0 := w0) w0.heap.size rfl (.tmp 28) (.tmp 30) 22 26 (.slice none 0 0) 24 rfl Try.underlying22 info26 rfl (by decide) (by omega) v xs l [.slice A l.length c] (fun _ => True) (fun k => some k = (Value.slice A l.length c).ownBlock) rfl (by first | (go_simp; done) | (go_simp; rfl)) ?aP ?aK ?aF ?aO ?aB ?aS ?aL ?_
          (case aP => exact Kd.M_row (Kd.R_mono (Kd.R_tight rfl HRR.out) (fun _ h_ => h_)))
          (case aK => intro k hk; refine ⟨trivial, fun e => ?_⟩; obtain ⟨cs1, h1⟩ := Kd.R_typed HRR.out k hk.symm; obtain ⟨cs2, h2⟩ := Kd.S_typed HS1.out k e.symm; rw [h1] at h2; cases h2)
          (case aF => exact fun _ _ => trivial)
          (case aO => exact (Kd.S_mono HS1.out (fun k hk => ⟨trivial, hk⟩)))
          (case aB => exact HB1.out)
          (case aS => exact HB1.out.size)
          (case aL => have := HL.out; simp [hidL, HFT.out] at this; omega)
          intro v1 w1 ho hb hg hat
          obtain ⟨A1, c1, rfl⟩ := Kd.S_slice ho
          generalize hn1 : (xs ++ [l]).length = n1 at *
          have hne := Kd.S_ne HS1.out HO1.out (by decide)
          have hOg := blk_grown HO1.out hg hne
          have hcO1 : w1.cell? ⟨gO, 0, none⟩ = some v := (blk_cell hOg 0).trans rfl
          have hfO1 := blk_frozen hOg 0
          have HO2 := Aside0.mk (blk_put hOg 0 (.slice A1 n1 c1) (cs' := #[.slice A1 n1 c1]) rfl)
          have HS2 := Aside0.mk (Kd.S_set ho hOg (by decide) 0 (.slice A1 n1 c1))
          have HK2 := Aside0.mk (Kept.setCell (p := ⟨gO, 0, none⟩) (Kept.of_grown hg (Kept.of_below HBr.out (fun k => k = gO ∨ some k = v.ownBlock)) (fun k e => .inl (.inr e.symm))) (.inl (.inl rfl)) (.slice A1 n1 c1))
          have HB2 := Aside0.mk (Below.setCell hb (p := ⟨gO, 0, none⟩) hbO (.slice A1 n1 c1))
          have HT2 : Aside0 (∀ k, (Value.slice A1 n1 c1).ownBlock = some k → v.ownBlock = some k ∨ w.heap.size ≤ k) := ⟨fun k e => by
            rcases hat with h | ⟨b, h, hb⟩
            · exact .inl (h ▸ e)
            · rw [h] at e; cases e; exact .inr (Nat.le_trans HBr.out.size hb)⟩
          have HX2 : Aside0 ((xs ++ [l]) ++ (hidR d l (fromOf l)).filter (fitS k cs) = xs ++ (hidL (d + 1) l (fromOf l)).filter (fitS k cs)) := ⟨by
            show _ = xs ++ (l :: hidR d l (fromOf l)).filter (fitS k cs)
            rw [List.filter_cons, HFT.out, if_pos rfl, List.append_assoc]; rfl⟩
          have HSO2 : Aside0 (∀ l' ∈ hidR d l (fromOf l), (badS k cs l').isSome = true) := ⟨fun l' h' => HSO.out l' (List.mem_cons_of_mem _ h')⟩
          have HRr := Aside0.mk (Kd.R_reads' (Kd.R_kept (Kd.R_tight rfl HR.out) HK2.out (fun k hk h => by
            obtain ⟨cs1, h1⟩ := Kd.R_typed HR.out k hk.symm
            rcases h with rfl | h
            · rw [HO.out] at h1; cases h1
            · obtain ⟨cs2, h2⟩ := Kd.S_typed HS.out k h.symm; rw [h1] at h2; cases h2)))
          clear hb ho hg hat hcO hOg HA HF HFT HO1 HS1 HRR HB1
          by_cases hpos : 0 < (l.length : Int)
          · obtain ⟨ad, e1, hx⟩ := Kd.at_int HRr.out.2.2 ((l.length : Int) - 1) (by omega) (by omega)
            cases e1
            have HNIL := Aside0.mk (rfl : fromOf l = fromOf l)
            rw [fromOf_rd l (by omega), show ((l.length : Int) - 1).toNat = l.length - 1 by omega] at hx
            have hp0 := decide_eq_true hpos
            have hp1' := eq_true hpos
            go_wp2
            clear hp0 hp1' hx hpos
            go_loopg [10] 6 (fun gg v10 w' => ∃ (q : Int) (v' : Value) (xs' : List (List Int)), v10 = .int .i64 q ∧ Aside0 (1 ≤ q ∧ q ≤ 7 ∧ (7 - q).toNat ≤ gg) ∧ Aside0 (w'.heap[gO]? = some (.cells #[v'] 22 (0, 0))) ∧ Aside0 (Kd.S (Kd.slice 3 (Kd.int .i64)) 26 w' w0.heap.size (fun _ => True) v' xs') ∧ Aside0 (Kept w w' (fun k => k = gO ∨ some k = v.ownBlock)) ∧ Aside0 (∀ k, v'.ownBlock = some k → v.ownBlock = some k ∨ w.heap.size ≤ k) ∧ Aside0 (Below w0.heap.size w0 w') ∧ Aside0 (xs' ++ (hidR d l q).filter (fitS k cs) = xs ++ (hidL (d + 1) l (fromOf l)).filter (fitS k cs)) ∧ Aside0 (∀ l' ∈ hidR d l q, (badS k cs l').isSome = true))
            case atStart => exact ⟨fromOf l, _, (xs ++ [l]), (by first | rfl | (rw [HNIL.out])), ⟨hp1, by omega, by omega⟩, HO2, HS2, HK2, HT2, HB2, HX2, HSO2⟩
            case round =>
              clear HO2 HS2 HK2 HT2 HB2 HX2 HSO2
              obtain ⟨q, v', xs', rfl, HQ, HO', HS', HK', HT', HB', HX, HSO'⟩ := hrel
              have ⟨hq1, hq7, hqg⟩ := HQ.out
              by_cases hq : q ≤ 6
              · have hq0 := decide_eq_true hq
                have HRw := Aside0.mk (Kd.R_reads' (Kd.R_kept (Kd.R_tight rfl HR.out) HK'.out (fun k hk h => by
                  obtain ⟨cs1, h1⟩ := Kd.R_typed HR.out k hk.symm
                  rcases h with rfl | h
                  · rw [HO.out] at h1; cases h1
                  · obtain ⟨cs2, h2⟩ := Kd.S_typed HS.out k h.symm; rw [h1] at h2; cases h2)))
                have hl4 : l.length ≤ 4 := by omega
                have hle4 : (l ++ [q]).length + d = 4 := by simp; omega
                have hX : (xs' ++ (hidL d (l ++ [q]) q).filter (fitS k cs)) ++ (hidR d l (q + 1)).filter (fitS k cs) = xs ++ (hidL (d + 1) l (fromOf l)).filter (fitS k cs) := by have e := HX.out; rw [hidR_step d l q hq, List.filter_append] at e; rw [List.append_assoc]; exact e
                have hXl : (xs' ++ (hidL d (l ++ [q]) q).filter (fitS k cs)).length ≤ 1000000 := by have e := HL.out; rw [← hX, List.length_append] at e; omega
                have hsn := fromOf_snoc l q
                have hs1 : ∀ l' ∈ hidL d (l ++ [q]) (fromOf (l ++ [q])), (badS k cs l').isSome = true := by rw [hsn]; intro l' h'; exact HSO'.out l' (by rw [hidR_step d l q hq]; exact List.mem_append_left _ h')
                have hs2 : ∀ l' ∈ hidR d l (q + 1), (badS k cs l').isSome = true := fun l' h' => HSO'.out l' (by rw [hidR_step d l q hq]; exact List.mem_append_right _ h')
                have HX' := Aside0.mk hX
                have HXl := Aside0.mk hXl
                have HLE := Aside0.mk hle4
                have HSN := Aside0.mk hsn
                have HS1' := Aside0.mk hs1
                have HS2' := Aside0.mk hs2
                clear hX hXl hle4 HX hsn hs1 hs2
                go_wp2_with (first
                  | (go_at_call 82; refine (spec_l1Own.calls _ c l l _ HRw.out.2.2 HRw.out.2.1 (by unfold spec_l1Own.f; show (if ([] : List Int).length + l.length < 17592186044416 then some ([] ++ l) else none) = some l; rw [if_pos (by simp; omega), List.nil_append])).mono ?_; rintro e w3 ⟨v3, rfl, ho3, hb3⟩; have HB3 := Aside0.mk hb3; have HO3 := Aside0.mk ho3; clear ho3 hb3)
                  | ((with_reducible refine gate_builtin (b := .append) (xs := #[.tmp 52, .tmp 54]) rfl ?_); at_builtin; refine Kd.R_append_rows (Kd.int .i64) (w0 := wr) wr.heap.size rfl (.tmp 52) (.tmp 54) 26 3 (.int .i64 0) 8 rfl Try.underlying26 info3 rfl (by decide) (by omega) v3 l [q] _ _ _ (fun _ => True) (fun _ => False) rfl rfl ?aO ?aR (fun _ _ h => h) (fun _ h => h.elim) (fun _ _ => trivial) ?aB ?aS ?aL ?_; (case aO => exact Kd.R_alloc HO3.out _); (case aR => exact C_one ((blk_cell (blk_new w3 _) 0).trans rfl)); (case aB => exact below_alloc HB3.out _); (case aS => have := HB3.out.size; first | omega | (simp; omega)); (case aL => omega); intro v4 w4 ho4 hb4 hg4 hat4; obtain ⟨A4, c4, rfl⟩ := Kd.R_slice ho4; have HO4 := Aside0.mk ho4; have HB4 := Aside0.mk hb4; clear ho4 hb4 hg4 hat4; have ih4 := IH.out A4 c4 (l ++ [q]) v' xs' w4 HLE.out HS1'.out (by rw [HSN.out]; omega) (by rw [HSN.out]; omega) (by rw [HSN.out]; exact HXl.out) (blk_below HO'.out HB4.out) (below_then HB'.out HB'.out.size HB4.out) (Kd.S_mono (Kd.S_elder' HS'.out (Kd.R_base HO4.out) HB4.out) (fun k hk => hk.2)) (Kd.R_lower HO4.out HB'.out.size); rw [HSN.out, show (l ++ [q]).length = l.length + 1 from by simp] at ih4; have IHQ := Aside0.mk ih4; clear ih4)
                  | (go_at_call 92; refine IHQ.out.mono ?_; rintro e w5 ⟨rfl, v5, hO5, hS5, hK5, hT5, hB5⟩; have HO5 := Aside0.mk hO5; have HS5 := Aside0.mk hS5; have HK5 := Aside0.mk hK5; have HT5 := Aside0.mk hT5; have HB5 := Aside0.mk hB5; clear hO5 hS5 hK5 hT5 hB5))
                go_roundg (gk - 1)
                case measure => have := HQ.out; omega
                case rel =>
                  refine ⟨q + 1, v5, _, (by first | rfl | rw [show wrap64 (q + 1) = q + 1 by unfold wrap64; omega]), ⟨by omega, by omega, by omega⟩, HO5, HS5, ⟨?_⟩, ⟨?_⟩, HB5, HX', HS2'⟩
                  · exact (HK'.out.below HB4.out).then_ HK5.out (fun k hk => by
                      rcases hk with hk | hk
                      · exact .inl (.inl hk)
                      · rcases HT'.out k hk.symm with h | h
                        · exact .inl (.inr h.symm)
                        · exact .inr h)
                  · intro k hk
                    rcases HT5.out k hk with h | h
                    · exact HT'.out k h
                    · exact .inr (Nat.le_trans (Nat.le_trans HK'.out.1 HB4.out.size) h)
              · have hq0 := decide_eq_false hq
                go_wp2
                refine bodyPost_end (results_none rfl _ _ _) rfl ⟨rfl, v', HO'.out, ?_, HK'.out, HT'.out, HB'.out⟩
                have e := HX.out
                rw [hidR_end _ _ _ (by omega), List.filter_nil, List.append_nil] at e
                rw [← e]; exact HS'.out
          · have hp0 := decide_eq_false hpos
            have hp1' := eq_false hpos
            have HNIL : Aside0 (fromOf l = 1) := ⟨by have e : l = [] := List.length_eq_zero_iff.1 (by omega); rw [e]; rfl⟩
            go_wp2
            clear hp0 hp1' hpos
            go_loopg [10] 6 (fun gg v10 w' => ∃ (q : Int) (v' : Value) (xs' : List (List Int)), v10 = .int .i64 q ∧ Aside0 (1 ≤ q ∧ q ≤ 7 ∧ (7 - q).toNat ≤ gg) ∧ Aside0 (w'.heap[gO]? = some (.cells #[v'] 22 (0, 0))) ∧ Aside0 (Kd.S (Kd.slice 3 (Kd.int .i64)) 26 w' w0.heap.size (fun _ => True) v' xs') ∧ Aside0 (Kept w w' (fun k => k = gO ∨ some k = v.ownBlock)) ∧ Aside0 (∀ k, v'.ownBlock = some k → v.ownBlock = some k ∨ w.heap.size ≤ k) ∧ Aside0 (Below w0.heap.size w0 w') ∧ Aside0 (xs' ++ (hidR d l q).filter (fitS k cs) = xs ++ (hidL (d + 1) l (fromOf l)).filter (fitS k cs)) ∧ Aside0 (∀ l' ∈ hidR d l q, (badS k cs l').isSome = true))
            case atStart => exact ⟨fromOf l, _, (xs ++ [l]), (by first | rfl | (rw [HNIL.out])), ⟨hp1, by omega, by omega⟩, HO2, HS2, HK2, HT2, HB2, HX2, HSO2⟩
            case round =>
              clear HO2 HS2 HK2 HT2 HB2 HX2 HSO2
              obtain ⟨q, v', xs', rfl, HQ, HO', HS', HK', HT', HB', HX, HSO'⟩ := hrel
              have ⟨hq1, hq7, hqg⟩ := HQ.out
              by_cases hq : q ≤ 6
              · have hq0 := decide_eq_true hq
                have HRw := Aside0.mk (Kd.R_reads' (Kd.R_kept (Kd.R_tight rfl HR.out) HK'.out (fun k hk h => by
                  obtain ⟨cs1, h1⟩ := Kd.R_typed HR.out k hk.symm
                  rcases h with rfl | h
                  · rw [HO.out] at h1; cases h1
                  · obtain ⟨cs2, h2⟩ := Kd.S_typed HS.out k h.symm; rw [h1] at h2; cases h2)))
                have hl4 : l.length ≤ 4 := by omega
                have hle4 : (l ++ [q]).length + d = 4 := by simp; omega
                have hX : (xs' ++ (hidL d (l ++ [q]) q).filter (fitS k cs)) ++ (hidR d l (q + 1)).filter (fitS k cs) = xs ++ (hidL (d + 1) l (fromOf l)).filter (fitS k cs) := by have e := HX.out; rw [hidR_step d l q hq, List.filter_append] at e; rw [List.append_assoc]; exact e
                have hXl : (xs' ++ (hidL d (l ++ [q]) q).filter (fitS k cs)).length ≤ 1000000 := by have e := HL.out; rw [← hX, List.length_append] at e; omega
                have hsn := fromOf_snoc l q
                have hs1 : ∀ l' ∈ hidL d (l ++ [q]) (fromOf (l ++ [q])), (badS k cs l').isSome = true := by rw [hsn]; intro l' h'; exact HSO'.out l' (by rw [hidR_step d l q hq]; exact List.mem_append_left _ h')
                have hs2 : ∀ l' ∈ hidR d l (q + 1), (badS k cs l').isSome = true := fun l' h' => HSO'.out l' (by rw [hidR_step d l q hq]; exact List.mem_append_right _ h')
                have HX' := Aside0.mk hX
                have HXl := Aside0.mk hXl
                have HLE := Aside0.mk hle4
                have HSN := Aside0.mk hsn
                have HS1' := Aside0.mk hs1
                have HS2' := Aside0.mk hs2
                clear hX hXl hle4 HX hsn hs1 hs2
                go_wp2_with (first
                  | (go_at_call 82; refine (spec_l1Own.calls _ c l l _ HRw.out.2.2 HRw.out.2.1 (by unfold spec_l1Own.f; show (if ([] : List Int).length + l.length < 17592186044416 then some ([] ++ l) else none) = some l; rw [if_pos (by simp; omega), List.nil_append])).mono ?_; rintro e w3 ⟨v3, rfl, ho3, hb3⟩; have HB3 := Aside0.mk hb3; have HO3 := Aside0.mk ho3; clear ho3 hb3)
                  | ((with_reducible refine gate_builtin (b := .append) (xs := #[.tmp 52, .tmp 54]) rfl ?_); at_builtin; refine Kd.R_append_rows (Kd.int .i64) (w0 := wr) wr.heap.size rfl (.tmp 52) (.tmp 54) 26 3 (.int .i64 0) 8 rfl Try.underlying26 info3 rfl (by decide) (by omega) v3 l [q] _ _ _ (fun _ => True) (fun _ => False) rfl rfl ?aO ?aR (fun _ _ h => h) (fun _ h => h.elim) (fun _ _ => trivial) ?aB ?aS ?aL ?_; (case aO => exact Kd.R_alloc HO3.out _); (case aR => exact C_one ((blk_cell (blk_new w3 _) 0).trans rfl)); (case aB => exact below_alloc HB3.out _); (case aS => have := HB3.out.size; first | omega | (simp; omega)); (case aL => omega); intro v4 w4 ho4 hb4 hg4 hat4; obtain ⟨A4, c4, rfl⟩ := Kd.R_slice ho4; have HO4 := Aside0.mk ho4; have HB4 := Aside0.mk hb4; clear ho4 hb4 hg4 hat4; have ih4 := IH.out A4 c4 (l ++ [q]) v' xs' w4 HLE.out HS1'.out (by rw [HSN.out]; omega) (by rw [HSN.out]; omega) (by rw [HSN.out]; exact HXl.out) (blk_below HO'.out HB4.out) (below_then HB'.out HB'.out.size HB4.out) (Kd.S_mono (Kd.S_elder' HS'.out (Kd.R_base HO4.out) HB4.out) (fun k hk => hk.2)) (Kd.R_lower HO4.out HB'.out.size); rw [HSN.out, show (l ++ [q]).length = l.length + 1 from by simp] at ih4; have IHQ := Aside0.mk ih4; clear ih4)
                  | (go_at_call 92; refine IHQ.out.mono ?_; rintro e w5 ⟨rfl, v5, hO5, hS5, hK5, hT5, hB5⟩; have HO5 := Aside0.mk hO5; have HS5 := Aside0.mk hS5; have HK5 := Aside0.mk hK5; have HT5 := Aside0.mk hT5; have HB5 := Aside0.mk hB5; clear hO5 hS5 hK5 hT5 hB5))
                go_roundg (gk - 1)
                case measure => have := HQ.out; omega
                case rel =>
                  refine ⟨q + 1, v5, _, (by first | rfl | rw [show wrap64 (q + 1) = q + 1 by unfold wrap64; omega]), ⟨by omega, by omega, by omega⟩, HO5, HS5, ⟨?_⟩, ⟨?_⟩, HB5, HX', HS2'⟩
                  · exact (HK'.out.below HB4.out).then_ HK5.out (fun k hk => by
                      rcases hk with hk | hk
                      · exact .inl (.inl hk)
                      · rcases HT'.out k hk.symm with h | h
                        · exact .inl (.inr h.symm)
                        · exact .inr h)
                  · intro k hk
                    rcases HT5.out k hk with h | h
                    · exact HT'.out k h
                    · exact .inr (Nat.le_trans (Nat.le_trans HK'.out.1 HB4.out.size) h)
              · have hq0 := decide_eq_false hq
                go_wp2
                refine bodyPost_end (results_none rfl _ _ _) rfl ⟨rfl, v', HO'.out, ?_, HK'.out, HT'.out, HB'.out⟩
                have e := HX.out
                rw [hidR_end _ _ _ (by omega), List.filter_nil, List.append_nil] at e
                rw [← e]; exact HS'.out
        | false =>
          have h0r : 0 ≤ r := by rcases HA.out with ⟨h, _⟩ | ⟨_, h⟩; cases h; exact h
          have HFT : Aside0 (fitS k cs l = false) := ⟨by rw [HF.out, decide_eq_true h0r]; rfl⟩
          clear h0r
          have HO2 := HO1
          have HS2 := Aside0.mk (Kd.S_mono (ok' := fun _ => True) HS1.out (fun _ _ => trivial))
          have HK2 := Aside0.mk (Kept.of_below HBr.out (fun k => k = gO ∨ some k = v.ownBlock))
          have HB2 := HB1
          have HT2 : Aside0 (∀ k, v.ownBlock = some k → v.ownBlock = some k ∨ w.heap.size ≤ k) := ⟨fun k e => .inl e⟩
          have HX2 : Aside0 (xs ++ (hidR d l (fromOf l)).filter (fitS k cs) = xs ++ (hidL (d + 1) l (fromOf l)).filter (fitS k cs)) := ⟨by
            show _ = xs ++ (l :: hidR d l (fromOf l)).filter (fitS k cs)
            rw [List.filter_cons, HFT.out, if_neg (by decide)]⟩
          have HSO2 : Aside0 (∀ l' ∈ hidR d l (fromOf l), (badS k cs l').isSome = true) := ⟨fun l' h' => HSO.out l' (List.mem_cons_of_mem _ h')⟩
          have HRr := Aside0.mk (Kd.R_reads' HRR.out)
          clear hcO HA HF HFT HO1 HS1 HRR HB1
          by_cases hpos : 0 < (l.length : Int)
          · obtain ⟨ad, e1, hx⟩ := Kd.at_int HRr.out.2.2 ((l.length : Int) - 1) (by omega) (by omega)
            cases e1
            have HNIL := Aside0.mk (rfl : fromOf l = fromOf l)
            rw [fromOf_rd l (by omega), show ((l.length : Int) - 1).toNat = l.length - 1 by omega] at hx
            have hp0 := decide_eq_true hpos
            have hp1' := eq_true hpos
            go_wp2
            clear hp0 hp1' hx hpos
            go_loopg [10] 6 (fun gg v10 w' => ∃ (q : Int) (v' : Value) (xs' : List (List Int)), v10 = .int .i64 q ∧ Aside0 (1 ≤ q ∧ q ≤ 7 ∧ (7 - q).toNat ≤ gg) ∧ Aside0 (w'.heap[gO]? = some (.cells #[v'] 22 (0, 0))) ∧ Aside0 (Kd.S (Kd.slice 3 (Kd.int .i64)) 26 w' w0.heap.size (fun _ => True) v' xs') ∧ Aside0 (Kept w w' (fun k => k = gO ∨ some k = v.ownBlock)) ∧ Aside0 (∀ k, v'.ownBlock = some k → v.ownBlock = some k ∨ w.heap.size ≤ k) ∧ Aside0 (Below w0.heap.size w0 w') ∧ Aside0 (xs' ++ (hidR d l q).filter (fitS k cs) = xs ++ (hidL (d + 1) l (fromOf l)).filter (fitS k cs)) ∧ Aside0 (∀ l' ∈ hidR d l q, (badS k cs l').isSome = true))
            case atStart => exact ⟨fromOf l, _, xs, (by first | rfl | (rw [HNIL.out])), ⟨hp1, by omega, by omega⟩, HO2, HS2, HK2, HT2, HB2, HX2, HSO2⟩
            case round =>
              clear HO2 HS2 HK2 HT2 HB2 HX2 HSO2
              obtain ⟨q, v', xs', rfl, HQ, HO', HS', HK', HT', HB', HX, HSO'⟩ := hrel
              have ⟨hq1, hq7, hqg⟩ := HQ.out
              by_cases hq : q ≤ 6
              · have hq0 := decide_eq_true hq
                have HRw := Aside0.mk (Kd.R_reads' (Kd.R_kept (Kd.R_tight rfl HR.out) HK'.out (fun k hk h => by
                  obtain ⟨cs1, h1⟩ := Kd.R_typed HR.out k hk.symm
                  rcases h with rfl | h
                  · rw [HO.out] at h1; cases h1
                  · obtain ⟨cs2, h2⟩ := Kd.S_typed HS.out k h.symm; rw [h1] at h2; cases h2)))
                have hl4 : l.length ≤ 4 := by omega
                have hle4 : (l ++ [q]).length + d = 4 := by simp; omega
                have hX : (xs' ++ (hidL d (l ++ [q]) q).filter (fitS k cs)) ++ (hidR d l (q + 1)).filter (fitS k cs) = xs ++ (hidL (d + 1) l (fromOf l)).filter (fitS k cs) := by have e := HX.out; rw [hidR_step d l q hq, List.filter_append] at e; rw [List.append_assoc]; exact e
                have hXl : (xs' ++ (hidL d (l ++ [q]) q).filter (fitS k cs)).length ≤ 1000000 := by have e := HL.out; rw [← hX, List.length_append] at e; omega
                have hsn := fromOf_snoc l q
                have hs1 : ∀ l' ∈ hidL d (l ++ [q]) (fromOf (l ++ [q])), (badS k cs l').isSome = true := by rw [hsn]; intro l' h'; exact HSO'.out l' (by rw [hidR_step d l q hq]; exact List.mem_append_left _ h')
                have hs2 : ∀ l' ∈ hidR d l (q + 1), (badS k cs l').isSome = true := fun l' h' => HSO'.out l' (by rw [hidR_step d l q hq]; exact List.mem_append_right _ h')
                have HX' := Aside0.mk hX
                have HXl := Aside0.mk hXl
                have HLE := Aside0.mk hle4
                have HSN := Aside0.mk hsn
                have HS1' := Aside0.mk hs1
                have HS2' := Aside0.mk hs2
                clear hX hXl hle4 HX hsn hs1 hs2
                go_wp2_with (first
                  | (go_at_call 82; refine (spec_l1Own.calls _ c l l _ HRw.out.2.2 HRw.out.2.1 (by unfold spec_l1Own.f; show (if ([] : List Int).length + l.length < 17592186044416 then some ([] ++ l) else none) = some l; rw [if_pos (by simp; omega), List.nil_append])).mono ?_; rintro e w3 ⟨v3, rfl, ho3, hb3⟩; have HB3 := Aside0.mk hb3; have HO3 := Aside0.mk ho3; clear ho3 hb3)
                  | ((with_reducible refine gate_builtin (b := .append) (xs := #[.tmp 52, .tmp 54]) rfl ?_); at_builtin; refine Kd.R_append_rows (Kd.int .i64) (w0 := wr) wr.heap.size rfl (.tmp 52) (.tmp 54) 26 3 (.int .i64 0) 8 rfl Try.underlying26 info3 rfl (by decide) (by omega) v3 l [q] _ _ _ (fun _ => True) (fun _ => False) rfl rfl ?aO ?aR (fun _ _ h => h) (fun _ h => h.elim) (fun _ _ => trivial) ?aB ?aS ?aL ?_; (case aO => exact Kd.R_alloc HO3.out _); (case aR => exact C_one ((blk_cell (blk_new w3 _) 0).trans rfl)); (case aB => exact below_alloc HB3.out _); (case aS => have := HB3.out.size; first | omega | (simp; omega)); (case aL => omega); intro v4 w4 ho4 hb4 hg4 hat4; obtain ⟨A4, c4, rfl⟩ := Kd.R_slice ho4; have HO4 := Aside0.mk ho4; have HB4 := Aside0.mk hb4; clear ho4 hb4 hg4 hat4; have ih4 := IH.out A4 c4 (l ++ [q]) v' xs' w4 HLE.out HS1'.out (by rw [HSN.out]; omega) (by rw [HSN.out]; omega) (by rw [HSN.out]; exact HXl.out) (blk_below HO'.out HB4.out) (below_then HB'.out HB'.out.size HB4.out) (Kd.S_mono (Kd.S_elder' HS'.out (Kd.R_base HO4.out) HB4.out) (fun k hk => hk.2)) (Kd.R_lower HO4.out HB'.out.size); rw [HSN.out, show (l ++ [q]).length = l.length + 1 from by simp] at ih4; have IHQ := Aside0.mk ih4; clear ih4)
                  | (go_at_call 92; refine IHQ.out.mono ?_; rintro e w5 ⟨rfl, v5, hO5, hS5, hK5, hT5, hB5⟩; have HO5 := Aside0.mk hO5; have HS5 := Aside0.mk hS5; have HK5 := Aside0.mk hK5; have HT5 := Aside0.mk hT5; have HB5 := Aside0.mk hB5; clear hO5 hS5 hK5 hT5 hB5))
                go_roundg (gk - 1)
                case measure => have := HQ.out; omega
                case rel =>
                  refine ⟨q + 1, v5, _, (by first | rfl | rw [show wrap64 (q + 1) = q + 1 by unfold wrap64; omega]), ⟨by omega, by omega, by omega⟩, HO5, HS5, ⟨?_⟩, ⟨?_⟩, HB5, HX', HS2'⟩
                  · exact (HK'.out.below HB4.out).then_ HK5.out (fun k hk => by
                      rcases hk with hk | hk
                      · exact .inl (.inl hk)
                      · rcases HT'.out k hk.symm with h | h
                        · exact .inl (.inr h.symm)
                        · exact .inr h)
                  · intro k hk
                    rcases HT5.out k hk with h | h
                    · exact HT'.out k h
                    · exact .inr (Nat.le_trans (Nat.le_trans HK'.out.1 HB4.out.size) h)
              · have hq0 := decide_eq_false hq
                go_wp2
                refine bodyPost_end (results_none rfl _ _ _) rfl ⟨rfl, v', HO'.out, ?_, HK'.out, HT'.out, HB'.out⟩
                have e := HX.out
                rw [hidR_end _ _ _ (by omega), List.filter_nil, List.append_nil] at e
                rw [← e]; exact HS'.out
          · have hp0 := decide_eq_false hpos
            have hp1' := eq_false hpos
            have HNIL : Aside0 (fromOf l = 1) := ⟨by have e : l = [] := List.length_eq_zero_iff.1 (by omega); rw [e]; rfl⟩
            go_wp2
            clear hp0 hp1' hpos
            go_loopg [10] 6 (fun gg v10 w' => ∃ (q : Int) (v' : Value) (xs' : List (List Int)), v10 = .int .i64 q ∧ Aside0 (1 ≤ q ∧ q ≤ 7 ∧ (7 - q).toNat ≤ gg) ∧ Aside0 (w'.heap[gO]? = some (.cells #[v'] 22 (0, 0))) ∧ Aside0 (Kd.S (Kd.slice 3 (Kd.int .i64)) 26 w' w0.heap.size (fun _ => True) v' xs') ∧ Aside0 (Kept w w' (fun k => k = gO ∨ some k = v.ownBlock)) ∧ Aside0 (∀ k, v'.ownBlock = some k → v.ownBlock = some k ∨ w.heap.size ≤ k) ∧ Aside0 (Below w0.heap.size w0 w') ∧ Aside0 (xs' ++ (hidR d l q).filter (fitS k cs) = xs ++ (hidL (d + 1) l (fromOf l)).filter (fitS k cs)) ∧ Aside0 (∀ l' ∈ hidR d l q, (badS k cs l').isSome = true))
            case atStart => exact ⟨fromOf l, _, xs, (by first | rfl | (rw [HNIL.out])), ⟨hp1, by omega, by omega⟩, HO2, HS2, HK2, HT2, HB2, HX2, HSO2⟩
            case round =>
              clear HO2 HS2 HK2 HT2 HB2 HX2 HSO2
              obtain ⟨q, v', xs', rfl, HQ, HO', HS', HK', HT', HB', HX, HSO'⟩ := hrel
              have ⟨hq1, hq7, hqg⟩ := HQ.out
              by_cases hq : q ≤ 6
              · have hq0 := decide_eq_true hq
                have HRw := Aside0.mk (Kd.R_reads' (Kd.R_kept (Kd.R_tight rfl HR.out) HK'.out (fun k hk h => by
                  obtain ⟨cs1, h1⟩ := Kd.R_typed HR.out k hk.symm
                  rcases h with rfl | h
                  · rw [HO.out] at h1; cases h1
                  · obtain ⟨cs2, h2⟩ := Kd.S_typed HS.out k h.symm; rw [h1] at h2; cases h2)))
                have hl4 : l.length ≤ 4 := by omega
                have hle4 : (l ++ [q]).length + d = 4 := by simp; omega
                have hX : (xs' ++ (hidL d (l ++ [q]) q).filter (fitS k cs)) ++ (hidR d l (q + 1)).filter (fitS k cs) = xs ++ (hidL (d + 1) l (fromOf l)).filter (fitS k cs) := by have e := HX.out; rw [hidR_step d l q hq, List.filter_append] at e; rw [List.append_assoc]; exact e
                have hXl : (xs' ++ (hidL d (l ++ [q]) q).filter (fitS k cs)).length ≤ 1000000 := by have e := HL.out; rw [← hX, List.length_append] at e; omega
                have hsn := fromOf_snoc l q
                have hs1 : ∀ l' ∈ hidL d (l ++ [q]) (fromOf (l ++ [q])), (badS k cs l').isSome = true := by rw [hsn]; intro l' h'; exact HSO'.out l' (by rw [hidR_step d l q hq]; exact List.mem_append_left _ h')
                have hs2 : ∀ l' ∈ hidR d l (q + 1), (badS k cs l').isSome = true := fun l' h' => HSO'.out l' (by rw [hidR_step d l q hq]; exact List.mem_append_right _ h')
                have HX' := Aside0.mk hX
                have HXl := Aside0.mk hXl
                have HLE := Aside0.mk hle4
                have HSN := Aside0.mk hsn
                have HS1' := Aside0.mk hs1
                have HS2' := Aside0.mk hs2
                clear hX hXl hle4 HX hsn hs1 hs2
                go_wp2_with (first
                  | (go_at_call 82; refine (spec_l1Own.calls _ c l l _ HRw.out.2.2 HRw.out.2.1 (by unfold spec_l1Own.f; show (if ([] : List Int).length + l.length < 17592186044416 then some ([] ++ l) else none) = some l; rw [if_pos (by simp; omega), List.nil_append])).mono ?_; rintro e w3 ⟨v3, rfl, ho3, hb3⟩; have HB3 := Aside0.mk hb3; have HO3 := Aside0.mk ho3; clear ho3 hb3)
                  | ((with_reducible refine gate_builtin (b := .append) (xs := #[.tmp 52, .tmp 54]) rfl ?_); at_builtin; refine Kd.R_append_rows (Kd.int .i64) (w0 := wr) wr.heap.size rfl (.tmp 52) (.tmp 54) 26 3 (.int .i64 0) 8 rfl Try.underlying26 info3 rfl (by decide) (by omega) v3 l [q] _ _ _ (fun _ => True) (fun _ => False) rfl rfl ?aO ?aR (fun _ _ h => h) (fun _ h => h.elim) (fun _ _ => trivial) ?aB ?aS ?aL ?_; (case aO => exact Kd.R_alloc HO3.out _); (case aR => exact C_one ((blk_cell (blk_new w3 _) 0).trans rfl)); (case aB => exact below_alloc HB3.out _); (case aS => have := HB3.out.size; first | omega | (simp; omega)); (case aL => omega); intro v4 w4 ho4 hb4 hg4 hat4; obtain ⟨A4, c4, rfl⟩ := Kd.R_slice ho4; have HO4 := Aside0.mk ho4; have HB4 := Aside0.mk hb4; clear ho4 hb4 hg4 hat4; have ih4 := IH.out A4 c4 (l ++ [q]) v' xs' w4 HLE.out HS1'.out (by rw [HSN.out]; omega) (by rw [HSN.out]; omega) (by rw [HSN.out]; exact HXl.out) (blk_below HO'.out HB4.out) (below_then HB'.out HB'.out.size HB4.out) (Kd.S_mono (Kd.S_elder' HS'.out (Kd.R_base HO4.out) HB4.out) (fun k hk => hk.2)) (Kd.R_lower HO4.out HB'.out.size); rw [HSN.out, show (l ++ [q]).length = l.length + 1 from by simp] at ih4; have IHQ := Aside0.mk ih4; clear ih4)
                  | (go_at_call 92; refine IHQ.out.mono ?_; rintro e w5 ⟨rfl, v5, hO5, hS5, hK5, hT5, hB5⟩; have HO5 := Aside0.mk hO5; have HS5 := Aside0.mk hS5; have HK5 := Aside0.mk hK5; have HT5 := Aside0.mk hT5; have HB5 := Aside0.mk hB5; clear hO5 hS5 hK5 hT5 hB5))
                go_roundg (gk - 1)
                case measure => have := HQ.out; omega
                case rel =>
                  refine ⟨q + 1, v5, _, (by first | rfl | rw [show wrap64 (q + 1) = q + 1 by unfold wrap64; omega]), ⟨by omega, by omega, by omega⟩, HO5, HS5, ⟨?_⟩, ⟨?_⟩, HB5, HX', HS2'⟩
                  · exact (HK'.out.below HB4.out).then_ HK5.out (fun k hk => by
                      rcases hk with hk | hk
                      · exact .inl (.inl hk)
                      · rcases HT'.out k hk.symm with h | h
                        · exact .inl (.inr h.symm)
                        · exact .inr h)
                  · intro k hk
                    rcases HT5.out k hk with h | h
                    · exact HT'.out k h
                    · exact .inr (Nat.le_trans (Nat.le_trans HK'.out.1 HB4.out.size) h)
              · have hq0 := decide_eq_false hq
                go_wp2
                refine bodyPost_end (results_none rfl _ _ _) rfl ⟨rfl, v', HO'.out, ?_, HK'.out, HT'.out, HB'.out⟩
                have e := HX.out
                rw [hidR_end _ _ _ (by omega), List.filter_nil, List.append_nil] at e
                rw [← e]; exact HS'.out


/-! ### spec_pzAll: function 60 -/
-- GIVEN loop.example/g01305/spec.pzAll rounds=1
/-- Those of the hidden pieces that fit all clues, if that can be told of each. -/
def spec_pzAll.f (k : Nat) (cs : List S77) : Option (List (List Int)) := if (hidL 4 [] 1).all (fun l => (badS k cs l).isSome) = true then some ((hidL 4 [] 1).filter (fitS k cs)) else none
theorem spec_pzAll.mono : ∀ (cs : List S77) k, LeO (spec_pzAll.f k cs) (spec_pzAll.f (k + 1) cs) := by
  intro cs k r h
  unfold spec_pzAll.f at h ⊢
  by_cases c : (hidL 4 [] 1).all (fun l => (badS k cs l).isSome) = true
  · rw [if_pos c] at h
    have e : ∀ l ∈ hidL 4 [] 1, badS (k + 1) cs l = badS k cs l := by
      intro l hl
      have := List.all_eq_true.1 c l hl
      obtain ⟨r, hr⟩ := Option.isSome_iff_exists.1 this
      rw [hr, badS_mono k cs l r hr]
    rw [if_pos, ← h]
    · congr 1
      exact List.filter_congr (fun l hl => by unfold fitS; rw [e l hl])
    · exact List.all_eq_true.2 (fun l hl => by rw [e l hl]; exact List.all_eq_true.1 c l hl)
  · rw [if_neg c] at h; cases h

set_option maxHeartbeats 4000000 in
theorem spec_pzAll.calls (k : Nat) (A0 : Option Addr) (c0 : Nat) (l0 : List S77) (r : List (List Int)) (w : World) (hr0 : Kd.C k77 w A0 l0.length l0) (hc0 : l0.length ≤ c0) (h : spec_pzAll.f k l0 = some r) :
    Calls Try.prog 60 #[.slice A0 l0.length c0] w fun e w' => ∃ v0_ : Value, e = .returned (v0_) ∧ Kd.S (Kd.slice 3 (Kd.int .i64)) 26 w' w.heap.size (fun _ => True) v0_ r ∧ Below w.heap.size w w' := by
  unfold spec_pzAll.f at h
  by_cases c : (hidL 4 [] 1).all (fun l => (badS k l0 l).isSome) = true
  · rw [if_pos c] at h
    obtain rfl := Option.some.inj h
    have hL := pzLook_calls k A0 c0 l0 w.heap.size w (Nat.le_refl _) hr0 hc0 4 none 0 [] (.slice none 0 0) [] (w.alloc (.cells #[.slice none 0 0] 22)) rfl (fun l' hl => List.all_eq_true.1 c l' hl) (by decide) (by decide)
      (by
        refine Nat.le_trans (List.length_filter_le _ _) ?_
        exact (Nat.le_of_ble_eq_true (by kernel_rfl) : (hidL 4 [] 1).length ≤ 1000000))
      (blk_new w _) (below_alloc (Below.refl _ _) _) (Kd.S_nil _ _ _ _ _) (Kd.R_nil _ _ _ _ _)
    have HL := Aside0.mk hL
    clear hL h c hr0
    go_enter Try.func60, Try.ntmps60
    go_wp2_with (go_at_call 92; refine HL.out.mono ?_; rintro e w2 ⟨rfl, v2, hO2, hS2, hK2, hT2, hB2⟩; have hcO2 : w2.cell? ⟨w.heap.size, 0, none⟩ = some v2 := (blk_cell hO2 0).trans rfl)
    go_ret
    exact ⟨_, rfl, hS2, hB2⟩
  · rw [if_neg c] at h; cases h


/-! ### spec_BestClue: function 29 -/
mutual
def spec_BestClue.j0 : Nat → Bool → List (S77) → Option (Int × Bool)
  | 0, _, _ => none
  | k + 1, x16, x173000 => if x16 = true then (some (0, false)) else (spec_BestClue.l0 k 0 0 (x173000.length : Int) 0 x173000)
def spec_BestClue.l0 : Nat → Int → Int → Int → Int → List (S77) → Option (Int × Bool)
  | 0, _, _, _, _, _ => none
  | k + 1, x4, x5, x19, x20, x173000 => if x20 < x19 then (if 0 ≤ x20 then (if x20 ≤ (wrap64 (x20 + 1)) then (if (wrap64 (x20 + 1)) ≤ (x173000.length : Int) then ((spec_pzAll.f k ((x173000.take ((wrap64 (x20 + 1)) : Int).toNat).drop (x20 : Int).toNat)).bind fun t178 => (if x20 = 0 then (spec_BestClue.l0 k x20 (t178.length : Int) x19 (wrap64 (x20 + 1)) x173000) else (if (t178.length : Int) < x5 then (spec_BestClue.l0 k x20 (t178.length : Int) x19 (wrap64 (x20 + 1)) x173000) else (spec_BestClue.l0 k x4 x5 x19 (wrap64 (x20 + 1)) x173000)))) else (none)) else (none)) else (none)) else (some (x4, true))
end
def spec_BestClue.f (k : Nat) (l0_0 : List (S77)) : Option (Int × Bool) := (spec_pzGood.f k l0_0).bind fun t173 => (if t173 = true then (spec_BestClue.j0 k ((l0_0.length : Int) == 0) l0_0) else (spec_BestClue.j0 k true l0_0))
theorem spec_BestClue.mono_l : ∀ k, (∀ y0 y1, LeO (spec_BestClue.j0 k y0 y1) (spec_BestClue.j0 (k + 1) y0 y1)) ∧ (∀ y0 y1 y2 y3 y4, LeO (spec_BestClue.l0 k y0 y1 y2 y3 y4) (spec_BestClue.l0 (k + 1) y0 y1 y2 y3 y4))
  | 0 => ⟨fun _ _ r h => by simp [spec_BestClue.j0] at h, fun _ _ _ _ _ r h => by simp [spec_BestClue.l0] at h⟩
  | k + 1 => by
    obtain ⟨ih0, ih1⟩ := spec_BestClue.mono_l k
    refine ⟨?_, ?_⟩
    · intro y0 y1
      unfold spec_BestClue.j0
      repeat' first
      | (with_reducible exact ih0 _ _)
      | (with_reducible exact ih1 _ _ _ _ _)
      | (with_reducible exact spec_pzAll.mono _ _)
      | (with_reducible exact spec_pzGood.mono _ _)
      | (with_reducible exact LeO.refl _)
      | (with_reducible exact LeO.none _)
      | (with_reducible refine LeO.ite ?_ ?_)
      | (with_reducible refine LeO.bind ?_ (fun _ => ?_))
      | exact ih0 _ _
      | exact ih1 _ _ _ _ _
      | exact spec_pzAll.mono _ _
      | exact spec_pzGood.mono _ _
      | exact LeO.none _
      | refine LeO.ite ?_ ?_
      | refine LeO.bind ?_ (fun _ => ?_)
    · intro y0 y1 y2 y3 y4
      unfold spec_BestClue.l0
      repeat' first
      | (with_reducible exact ih0 _ _)
      | (with_reducible exact ih1 _ _ _ _ _)
      | (with_reducible exact spec_pzAll.mono _ _)
      | (with_reducible exact spec_pzGood.mono _ _)
      | (with_reducible exact LeO.refl _)
      | (with_reducible exact LeO.none _)
      | (with_reducible refine LeO.ite ?_ ?_)
      | (with_reducible refine LeO.bind ?_ (fun _ => ?_))
      | exact ih0 _ _
      | exact ih1 _ _ _ _ _
      | exact spec_pzAll.mono _ _
      | exact spec_pzGood.mono _ _
      | exact LeO.none _
      | refine LeO.ite ?_ ?_
      | refine LeO.bind ?_ (fun _ => ?_)
theorem spec_BestClue.mono : ∀ a0 k, LeO (spec_BestClue.f k a0) (spec_BestClue.f (k + 1) a0) := by
  intro a0 k
  obtain ⟨ih0, ih1⟩ := spec_BestClue.mono_l k
  unfold spec_BestClue.f
  repeat' first
      | (with_reducible exact ih0 _ _)
      | (with_reducible exact ih1 _ _ _ _ _)
      | (with_reducible exact spec_pzAll.mono _ _)
      | (with_reducible exact spec_pzGood.mono _ _)
      | (with_reducible exact LeO.refl _)
      | (with_reducible exact LeO.none _)
      | (with_reducible refine LeO.ite ?_ ?_)
      | (with_reducible refine LeO.bind ?_ (fun _ => ?_))
      | exact ih0 _ _
      | exact ih1 _ _ _ _ _
      | exact spec_pzAll.mono _ _
      | exact spec_pzGood.mono _ _
      | exact LeO.none _
      | refine LeO.ite ?_ ?_
      | refine LeO.bind ?_ (fun _ => ?_)
set_option maxHeartbeats 8000000 in
set_option maxRecDepth 100000 in
theorem spec_BestClue.calls (k : Nat) (A0_0 : Option Addr) (c0_0 : Nat) (l0_0 : List (S77)) (r1 : Int) (r2 : Bool) (w : World) (hr0_0 : Kd.C k77 w A0_0 l0_0.length l0_0) (hc0_0 : l0_0.length ≤ c0_0) (h : spec_BestClue.f k l0_0 = some (r1, r2)) :
    Calls Try.prog 29 #[.agg #[.slice A0_0 l0_0.length c0_0]] w fun e w' => e = .returned (.tuple #[.int .i64 r1, .bool r2]) ∧ Below w.heap.size w w' := by
  have hu44 := Try.underlying44
  have HR0_0 := Aside0.mk hr0_0
  have HC0_0 := Aside0.mk hc0_0
  clear hr0_0 hc0_0
  have HB := Aside0.mk (Below.refl w.heap.size w)
  have H : ((spec_pzGood.f k l0_0).bind fun t173 => (if t173 = true then (spec_BestClue.j0 k ((l0_0.length : Int) == 0) l0_0) else (spec_BestClue.j0 k true l0_0))) = some (r1, r2) := h
  clear h
  have HC2 := Aside0.mk H
  clear H
  go_enter Try.func29, Try.ntmps29
  go_upto_region 1 with (first | ((with_reducible refine gate_dst (N := 1) rfl ?_); (try (refine gate_guard (by rfl) ?_; dsimp only)); refine box_event ?hg (N := 1) ?hd (cs := #[.slice A0_0 l0_0.length c0_0]) (t := 44) ?hr ?_; (case hd => rfl); (case hg => rfl); (case hr => first | (go_simp; done) | (go_simp; rfl)); intro gb172 hg w3 hbox hb; have n0_ := Aside0.mk (below_step (by repeat (first | (with_reducible first | exact HB.out | apply below_alloc | apply pw_below_drewN | apply below_drew1) | exact HB.out)) hb); have n1_ := Aside0.mk (hbox); have n2_ := Aside0.mk ((by rw [hg]; exact (below_size (by repeat (first | (with_reducible first | exact HB.out | apply below_alloc | apply pw_below_drewN | apply below_drew1) | exact HB.out))) : w.heap.size ≤ gb172)); have n3_ := Aside0.mk ((by rw [hg]; exact (below_size (by repeat (first | (with_reducible first | exact HB.out | apply below_alloc | apply pw_below_drewN | apply below_drew1) | exact HB.out))) : w.heap.size ≤ gb172)); clear HB; have HB := n0_; have BK172 := n1_; have GW172 := n2_; have GE172 := n3_; clear n0_ n1_ n2_ n3_; clear hb hbox hg))
  (try simp only [Act.put, List.setIfInBounds_toArray, List.set_cons_zero, List.set_cons_succ])
  go_cut [16] (fun v16 wc => ∃ (kq : Nat) (x16_1 : Bool), v16 = .bool x16_1 ∧ Aside0 (spec_BestClue.j0 kq x16_1 l0_0 = some (r1, r2)) ∧ Aside0 (kq ≤ k) ∧ Aside0 (wc.heap[gb172]? = some (.cells #[(.slice A0_0 l0_0.length c0_0)] 44 (0, 0))) ∧ Aside0 (Below w.heap.size w wc))
  case first =>
    have H := HC2.out
    clear HC2
    replace H := Option.bind_eq_some_iff.mp H
    obtain ⟨t173, A40, H⟩ := H
    replace H : (if t173 = true then (spec_BestClue.j0 k ((l0_0.length : Int) == 0) l0_0) else (spec_BestClue.j0 k true l0_0)) = some (r1, r2) := H
    have A4 := Aside0.mk A40
    clear A40
    by_cases c5 : t173 = true
    · subst c5
      have H1 : (spec_BestClue.j0 k ((l0_0.length : Int) == 0) l0_0) = some (r1, r2) := by rw [if_pos rfl] at H; exact H
      clear H
      have H := H1
      clear H1
      have H' := Aside0.mk H
      clear H
      have hcz6_0 : w3.cell? ⟨gb172, 0, none⟩ = some (.slice A0_0 l0_0.length c0_0) := (blk_cell BK172.out 0).trans rfl
      have hfz6_0 := blk_frozen BK172.out 0
      go_wp2_with (first | ((with_reducible refine gate_callee (f := 59) rfl ?_); refine goesL_ (some 9) rfl rfl Try.func59 (by kernel_rfl) rfl #[.agg #[.slice A0_0 l0_0.length c0_0]] rfl (by (try simp only [List.map_toArray, List.map_cons, List.map_nil]); first | done | rfl | (simp only [List.length_drop, List.length_take]; rfl)) ?_; (with_reducible refine (spec_pzGood.calls k _ _ l0_0 true _ ?side1 ?side2 A4.out).mono ?_); (case side1 => repeat (first | exact (Kd.C_below HR0_0.out HB.out) | (with_reducible refine Kd.C_alloc ?_ _) | (with_reducible refine Kd.C_drewN ?_ _) | (with_reducible refine Kd.C_drew ?_))); (case side2 => exact HC0_0.out); rintro e w7 ⟨rfl, hb⟩; refine ⟨_, rfl, ?_⟩; have n0_ := Aside0.mk (blk_below (g := gb172) (o := .cells #[.slice A0_0 l0_0.length c0_0] 44 (0, 0)) (by (with_reducible repeat (first | refine blk_drewN ?_ _ | refine blk_drew ?_ | refine blk_alloc ?_ _)); exact BK172.out) hb); have n1_ := Aside0.mk (below_step (by repeat (first | (with_reducible first | exact HB.out | apply below_alloc | apply pw_below_drewN | apply below_drew1 | refine below_set ?_ GE172.out) | exact HB.out)) hb); clear BK172; clear HB; have BK172 := n0_; have HB := n1_; clear n0_ n1_; (try clear hb); (try clear hb2); (try clear hk); (try clear hi); have hcz8_0 : w7.cell? ⟨gb172, 0, none⟩ = some (.slice A0_0 l0_0.length c0_0) := (blk_cell BK172.out 0).trans rfl; have hfz8_0 := blk_frozen BK172.out 0))
      go_meet
      case rel => exact ⟨_, (((l0_0.length : Int) == 0)), (by first | rfl | (simp; done) | (simp [*]; done)), H', ⟨by first | omega | exact Nat.le_refl _⟩, ⟨by (with_reducible repeat (first | refine blk_drewN ?_ _ | refine blk_drew ?_ | refine blk_alloc ?_ _)); exact BK172.out⟩, ⟨by repeat (first | (with_reducible first | exact HB.out | apply below_alloc | apply pw_below_drewN | apply below_drew1 | refine below_set ?_ GE172.out) | exact HB.out)⟩⟩
    · replace c5 := Bool.eq_false_iff.mpr c5
      subst c5
      have H1 : (spec_BestClue.j0 k true l0_0) = some (r1, r2) := by rw [if_neg (show ¬ (false = true) by decide)] at H; exact H
      clear H
      have H := H1
      clear H1
      have H' := Aside0.mk H
      clear H
      have hcz9_0 : w3.cell? ⟨gb172, 0, none⟩ = some (.slice A0_0 l0_0.length c0_0) := (blk_cell BK172.out 0).trans rfl
      have hfz9_0 := blk_frozen BK172.out 0
      go_wp2_with (first | ((with_reducible refine gate_callee (f := 59) rfl ?_); refine goesL_ (some 9) rfl rfl Try.func59 (by kernel_rfl) rfl #[.agg #[.slice A0_0 l0_0.length c0_0]] rfl (by (try simp only [List.map_toArray, List.map_cons, List.map_nil]); first | done | rfl | (simp only [List.length_drop, List.length_take]; rfl)) ?_; (with_reducible refine (spec_pzGood.calls k _ _ l0_0 false _ ?side1 ?side2 A4.out).mono ?_); (case side1 => repeat (first | exact (Kd.C_below HR0_0.out HB.out) | (with_reducible refine Kd.C_alloc ?_ _) | (with_reducible refine Kd.C_drewN ?_ _) | (with_reducible refine Kd.C_drew ?_))); (case side2 => exact HC0_0.out); rintro e w10 ⟨rfl, hb⟩; refine ⟨_, rfl, ?_⟩; have n0_ := Aside0.mk (blk_below (g := gb172) (o := .cells #[.slice A0_0 l0_0.length c0_0] 44 (0, 0)) (by (with_reducible repeat (first | refine blk_drewN ?_ _ | refine blk_drew ?_ | refine blk_alloc ?_ _)); exact BK172.out) hb); have n1_ := Aside0.mk (below_step (by repeat (first | (with_reducible first | exact HB.out | apply below_alloc | apply pw_below_drewN | apply below_drew1 | refine below_set ?_ GE172.out) | exact HB.out)) hb); clear BK172; clear HB; have BK172 := n0_; have HB := n1_; clear n0_ n1_; (try clear hb); (try clear hb2); (try clear hk); (try clear hi)))
      go_meet
      case rel => exact ⟨_, (true), (by first | rfl | (simp; done) | (simp [*]; done)), H', ⟨by first | omega | exact Nat.le_refl _⟩, ⟨by (with_reducible repeat (first | refine blk_drewN ?_ _ | refine blk_drew ?_ | refine blk_alloc ?_ _)); exact BK172.out⟩, ⟨by repeat (first | (with_reducible first | exact HB.out | apply below_alloc | apply pw_below_drewN | apply below_drew1 | refine below_set ?_ GE172.out) | exact HB.out)⟩⟩
  case rest =>
    clear HC2
    try clear c2
    try clear p2
    try clear c5
    try clear hcz6_0
    try clear hcz8_0
    try clear hcz9_0
    try clear hfz6_0
    try clear hfz8_0
    try clear hfz9_0
    obtain ⟨kq, x16_1, rfl, HA, HJ1, BK172, HB⟩ := hcut
    cases kq with
    | zero => exact absurd HA.out (by simp [spec_BestClue.j0])
    | succ kj1 =>
      have H := HA.out
      clear HA
      simp only [spec_BestClue.j0] at H
      by_cases c11 : x16_1 = true
      · subst c11
        have H1 : (some (0, false)) = some (r1, r2) := by rw [if_pos rfl] at H; exact H
        clear H
        have H := H1
        clear H1
        simp only [Option.some.injEq, Prod.mk.injEq] at H
        obtain ⟨rfl, rfl⟩ := H
        go_wp2
        go_ret2
        exact ⟨by first | rfl | (simp [errW_none, errW_some] <;> rfl) | (simp [*, errW_none, errW_some] <;> rfl), by repeat (first | (with_reducible first | exact HB.out | apply below_alloc | apply pw_below_drewN | apply below_drew1 | refine below_set ?_ GE172.out) | exact HB.out)⟩
      · replace c11 := Bool.eq_false_iff.mpr c11
        subst c11
        have H1 : (spec_BestClue.l0 kj1 0 0 (l0_0.length : Int) 0 l0_0) = some (r1, r2) := by rw [if_neg (show ¬ (false = true) by decide)] at H; exact H
        clear H
        have H := H1
        clear H1
        have H' := Aside0.mk H
        clear H
        have hcz12_0 : wc.cell? ⟨gb172, 0, none⟩ = some (.slice A0_0 l0_0.length c0_0) := (blk_cell BK172.out 0).trans rfl
        have hfz12_0 := blk_frozen BK172.out 0
        go_wp2
        go_loopg [4, 5, 20] kj1 (fun kq v4 v5 v20 w' => ∃ (x4_2 : Int) (x5_2 : Int) (x20_2 : Int), v4 = .int .i64 x4_2 ∧ v5 = .int .i64 x5_2 ∧ v20 = .int .i64 x20_2 ∧ Aside0 (spec_BestClue.l0 kq x4_2 x5_2 (l0_0.length : Int) x20_2 l0_0 = some (r1, r2)) ∧ Aside0 (kq ≤ kj1) ∧ Aside0 (w'.heap[gb172]? = some (.cells #[(.slice A0_0 l0_0.length c0_0)] 44 (0, 0))) ∧ Aside0 (Below w.heap.size w w'))
        case atStart => exact ⟨(0), (0), (0), (by first | rfl | (simp; done) | (simp [*]; done)), (by first | rfl | (simp; done) | (simp [*]; done)), (by first | rfl | (simp; done) | (simp [*]; done)), H', ⟨Nat.le_refl _⟩, ⟨by (with_reducible repeat (first | refine blk_drewN ?_ _ | refine blk_drew ?_ | refine blk_alloc ?_ _)); exact BK172.out⟩, ⟨by repeat (first | (with_reducible first | exact HB.out | apply below_alloc | apply pw_below_drewN | apply below_drew1 | refine below_set ?_ GE172.out) | exact HB.out)⟩⟩
        case round =>
          clear H'
          try clear c1
          try clear c2
          try clear p2
          try clear c5
          try clear c11
          try clear hcz12_0
          try clear hcz6_0
          try clear hcz8_0
          try clear hcz9_0
          try clear hfz12_0
          try clear hfz6_0
          try clear hfz8_0
          try clear hfz9_0
          try clear p2
          obtain ⟨x4_2, x5_2, x20_2, rfl, rfl, rfl, HA, HK2, BK172, HB⟩ := hrel
          cases gk with
          | zero => exact absurd HA.out (by simp [spec_BestClue.l0])
          | succ k2 =>
            have H := HA.out
            clear HA
            simp only [spec_BestClue.l0] at H
            by_cases c13 : x20_2 < (l0_0.length : Int)
            · rw [if_pos c13] at H
              have c13b0 : decide (x20_2 < (l0_0.length : Int)) = true := decide_eq_true c13
              clear c13
              by_cases c14 : 0 ≤ x20_2
              · rw [if_pos c14] at H
                have c14b0 := eq_true c14
                have c14b1 : decide (0 ≤ x20_2) = true := decide_eq_true c14
                clear c14
                by_cases c15 : x20_2 ≤ (wrap64 (x20_2 + 1))
                · rw [if_pos c15] at H
                  have c15b0 := eq_true c15
                  have c15b1 : decide (x20_2 ≤ (wrap64 (x20_2 + 1))) = true := decide_eq_true c15
                  by_cases c16 : (wrap64 (x20_2 + 1)) ≤ (l0_0.length : Int)
                  · rw [if_pos c16] at H
                    have c16b0 := eq_true c16
                    have c16b1 : decide ((wrap64 (x20_2 + 1)) ≤ (l0_0.length : Int)) = true := decide_eq_true c16
                    obtain ⟨y174, hy174⟩ : ∃ y_ : List (S77), y_ = ((l0_0.take ((wrap64 (x20_2 + 1)) : Int).toNat).drop (x20_2 : Int).toNat) := ⟨_, rfl⟩
                    replace H : ((spec_pzAll.f k2 y174).bind fun t178 => (if x20_2 = 0 then (spec_BestClue.l0 k2 x20_2 (t178.length : Int) (l0_0.length : Int) (wrap64 (x20_2 + 1)) l0_0) else (if (t178.length : Int) < x5_2 then (spec_BestClue.l0 k2 x20_2 (t178.length : Int) (l0_0.length : Int) (wrap64 (x20_2 + 1)) l0_0) else (spec_BestClue.l0 k2 x4_2 x5_2 (l0_0.length : Int) (wrap64 (x20_2 + 1)) l0_0)))) = some (r1, r2) := by first | (rw [hy174]; with_reducible exact H) | (have H2_ := (Option.bind_some _ _).symm.trans H; rw [hy174]; with_reducible exact H2_) | (have H2_ := (Option.bind_some _ _).symm.trans H; with_reducible exact H2_) | with_reducible exact H | (rw [hy174]; exact H) | exact H
                    have Ny174 := Aside0.mk hy174
                    clear hy174
                    replace H := Option.bind_eq_some_iff.mp H
                    obtain ⟨t178, A170, H⟩ := H
                    replace H : (if x20_2 = 0 then (spec_BestClue.l0 k2 x20_2 (t178.length : Int) (l0_0.length : Int) (wrap64 (x20_2 + 1)) l0_0) else (if (t178.length : Int) < x5_2 then (spec_BestClue.l0 k2 x20_2 (t178.length : Int) (l0_0.length : Int) (wrap64 (x20_2 + 1)) l0_0) else (spec_BestClue.l0 k2 x4_2 x5_2 (l0_0.length : Int) (wrap64 (x20_2 + 1)) l0_0))) = some (r1, r2) := H
                    have A17 := Aside0.mk A170
                    clear A170
                    by_cases c18 : x20_2 = 0
                    · rw [if_pos c18] at H
                      have c18b0 : (x20_2 == 0) = true := beq_iff_eq.mpr c18
                      have c18b1 : (x20_2 != 0) = false := bne_eq_false_iff_eq.mpr c18
                      clear c18
                      have H' := Aside0.mk H
                      clear H
                      have hcz19_0 : wr.cell? ⟨gb172, 0, none⟩ = some (.slice A0_0 l0_0.length c0_0) := (blk_cell BK172.out 0).trans rfl
                      have hfz19_0 := blk_frozen BK172.out 0
                      have q20 : ((wrap64 (x20_2 + 1)) : Int) ≤ ((l0_0.length : Int) : Int) := of_decide_eq_true (by first | (with_reducible assumption) | assumption)
                      obtain ⟨i020, hi020, _, hsz20, _⟩ := info_parts info77
                      have hroom20 : l0_0.length ≤ c0_0 := HC0_0.out
                      have hC20 : Kd.C k77 _ A0_0 l0_0.length l0_0 := HR0_0.out
                      have ql20 : (x20_2 : Int) ≤ ((wrap64 (x20_2 + 1)) : Int) := of_decide_eq_true (by first | (with_reducible assumption) | assumption)
                      have q020 : (0 : Int) ≤ (x20_2 : Int) := of_decide_eq_true (by first | (with_reducible assumption) | assumption)
                      have hcut20 := cut_mid (P := Try.prog) 42 77 .i64 .i64 Try.underlying42 hi020 3 hsz20 A0_0 l0_0.length c0_0 x20_2 (wrap64 (x20_2 + 1)) q020 ql20 q20 hroom20
                      have hr20 := Kd.C_mid (lo := (x20_2 : Int).toNat) (hi := ((wrap64 (x20_2 + 1)) : Int).toNat) (c := c0_0) hC20 (by omega) (by omega) hroom20
                      obtain ⟨A20, hA20⟩ : ∃ A1, A1 = (if c0_0 = (x20_2 : Int).toNat then A0_0 else (A0_0 : Option Addr).map (·.add ((x20_2 : Int).toNat * 3))) := ⟨_, rfl⟩
                      obtain ⟨c20, hc20⟩ : ∃ c1, c1 = c0_0 - (x20_2 : Int).toNat := ⟨_, rfl⟩
                      have hy20 : y174.length = ((wrap64 (x20_2 + 1)) : Int).toNat - (x20_2 : Int).toNat := (by rw [Ny174.out, List.length_drop, List.length_take] <;> omega)
                      rw [show ((l0_0).take ((wrap64 (x20_2 + 1)) : Int).toNat).drop (x20_2 : Int).toNat = y174 from Ny174.out.symm] at hr20
                      replace hr20 : Kd.C k77 _ A20 y174.length y174 := (by rw [hA20]; exact hr20)
                      rw [← hy20, ← hA20, ← hc20] at hcut20
                      have HR177 := Aside0.mk hr20
                      have HC177 := Aside0.mk (show y174.length ≤ c20 from by rw [hy20, hc20]; exact Nat.sub_le_sub_right (Nat.le_trans (by omega) hroom20) _)
                      clear hr20 hC20 hroom20 hi020 hsz20 hc20
                      have KY20 := Aside0.mk hy20
                      have KA20 := Aside0.mk hA20
                      clear hy20 hA20
                      replace q20 := eq_true q20
                      go_wp2_with (first | ((with_reducible refine gate_callee (f := 60) rfl ?_); refine goesL_ (some 29) rfl rfl Try.func60 (by kernel_rfl) rfl #[.slice A20 y174.length c20] rfl (by (try simp only [List.map_toArray, List.map_cons, List.map_nil]); first | done | rfl | (simp only [List.length_drop, List.length_take]; rfl)) ?_; (with_reducible refine (spec_pzAll.calls k2 _ _ y174 t178 _ ?side1 ?side2 A17.out).mono ?_); (case side1 => repeat (first | exact (Kd.C_below HR177.out HB.out) | (with_reducible refine Kd.C_alloc ?_ _) | (with_reducible refine Kd.C_drewN ?_ _) | (with_reducible refine Kd.C_drew ?_))); (case side2 => exact HC177.out); rintro e w21 ⟨v179, rfl, ho0, hb⟩; refine ⟨_, rfl, ?_⟩; have n0_ := Aside0.mk (Kd.S_lower ho0 (below_size (by repeat (first | (with_reducible first | exact HB.out | apply below_alloc | apply pw_below_drewN | apply below_drew1 | refine below_set ?_ GE172.out) | exact HB.out)))); have n1_ := Aside0.mk (blk_below (g := gb172) (o := .cells #[.slice A0_0 l0_0.length c0_0] 44 (0, 0)) (by (with_reducible repeat (first | refine blk_drewN ?_ _ | refine blk_drew ?_ | refine blk_alloc ?_ _)); exact BK172.out) hb); have n2_ := Aside0.mk (below_step (by repeat (first | (with_reducible first | exact HB.out | apply below_alloc | apply pw_below_drewN | apply below_drew1 | refine below_set ?_ GE172.out) | exact HB.out)) hb); clear BK172; clear HB; have HO180 := n0_; have BK172 := n1_; have HB := n2_; clear n0_ n1_ n2_; (try clear hb); (try clear hb2); (try clear hk); (try clear hi); (try clear ho0); obtain ⟨Ao22, co22, eo22⟩ := Kd.S_slice HO180.out; subst eo22))
                      go_roundg k2
                      case measure => have := HJ1.out; have := HK2.out; omega
                      case rel => exact ⟨(x20_2), ((t178.length : Int)), (wrap64 (x20_2 + 1)), (by first | rfl | (simp; done) | (simp [*]; done)), (by first | rfl | (simp; done) | (simp [*]; done)), (by first | rfl | (simp; done) | (simp [*]; done)), H', ⟨by have := HJ1.out; have := HK2.out; omega⟩, ⟨by (with_reducible repeat (first | refine blk_drewN ?_ _ | refine blk_drew ?_ | refine blk_alloc ?_ _)); exact BK172.out⟩, ⟨by repeat (first | (with_reducible first | exact HB.out | apply below_alloc | apply pw_below_drewN | apply below_drew1 | refine below_set ?_ GE172.out) | exact HB.out)⟩⟩
                    · rw [if_neg c18] at H
                      have c18b0 : (x20_2 == 0) = false := beq_eq_false_iff_ne.mpr c18
                      have c18b1 : (x20_2 != 0) = true := bne_iff_ne.mpr c18
                      by_cases c23 : (t178.length : Int) < x5_2
                      · rw [if_pos c23] at H
                        have c23b0 : decide ((t178.length : Int) < x5_2) = true := decide_eq_true c23
                        clear c23
                        have H' := Aside0.mk H
                        clear H
                        have hcz24_0 : wr.cell? ⟨gb172, 0, none⟩ = some (.slice A0_0 l0_0.length c0_0) := (blk_cell BK172.out 0).trans rfl
                        have hfz24_0 := blk_frozen BK172.out 0
                        have q25 : ((wrap64 (x20_2 + 1)) : Int) ≤ ((l0_0.length : Int) : Int) := of_decide_eq_true (by first | (with_reducible assumption) | assumption)
                        obtain ⟨i025, hi025, _, hsz25, _⟩ := info_parts info77
                        have hroom25 : l0_0.length ≤ c0_0 := HC0_0.out
                        have hC25 : Kd.C k77 _ A0_0 l0_0.length l0_0 := HR0_0.out
                        have ql25 : (x20_2 : Int) ≤ ((wrap64 (x20_2 + 1)) : Int) := of_decide_eq_true (by first | (with_reducible assumption) | assumption)
                        have q025 : (0 : Int) ≤ (x20_2 : Int) := of_decide_eq_true (by first | (with_reducible assumption) | assumption)
                        have hcut25 := cut_mid (P := Try.prog) 42 77 .i64 .i64 Try.underlying42 hi025 3 hsz25 A0_0 l0_0.length c0_0 x20_2 (wrap64 (x20_2 + 1)) q025 ql25 q25 hroom25
                        have hr25 := Kd.C_mid (lo := (x20_2 : Int).toNat) (hi := ((wrap64 (x20_2 + 1)) : Int).toNat) (c := c0_0) hC25 (by omega) (by omega) hroom25
                        obtain ⟨A25, hA25⟩ : ∃ A1, A1 = (if c0_0 = (x20_2 : Int).toNat then A0_0 else (A0_0 : Option Addr).map (·.add ((x20_2 : Int).toNat * 3))) := ⟨_, rfl⟩
                        obtain ⟨c25, hc25⟩ : ∃ c1, c1 = c0_0 - (x20_2 : Int).toNat := ⟨_, rfl⟩
                        have hy25 : y174.length = ((wrap64 (x20_2 + 1)) : Int).toNat - (x20_2 : Int).toNat := (by rw [Ny174.out, List.length_drop, List.length_take] <;> omega)
                        rw [show ((l0_0).take ((wrap64 (x20_2 + 1)) : Int).toNat).drop (x20_2 : Int).toNat = y174 from Ny174.out.symm] at hr25
                        replace hr25 : Kd.C k77 _ A25 y174.length y174 := (by rw [hA25]; exact hr25)
                        rw [← hy25, ← hA25, ← hc25] at hcut25
                        have HR177 := Aside0.mk hr25
                        have HC177 := Aside0.mk (show y174.length ≤ c25 from by rw [hy25, hc25]; exact Nat.sub_le_sub_right (Nat.le_trans (by omega) hroom25) _)
                        clear hr25 hC25 hroom25 hi025 hsz25 hc25
                        have KY25 := Aside0.mk hy25
                        have KA25 := Aside0.mk hA25
                        clear hy25 hA25
                        replace q25 := eq_true q25
                        go_wp2_with (first | ((with_reducible refine gate_callee (f := 60) rfl ?_); refine goesL_ (some 29) rfl rfl Try.func60 (by kernel_rfl) rfl #[.slice A25 y174.length c25] rfl (by (try simp only [List.map_toArray, List.map_cons, List.map_nil]); first | done | rfl | (simp only [List.length_drop, List.length_take]; rfl)) ?_; (with_reducible refine (spec_pzAll.calls k2 _ _ y174 t178 _ ?side1 ?side2 A17.out).mono ?_); (case side1 => repeat (first | exact (Kd.C_below HR177.out HB.out) | (with_reducible refine Kd.C_alloc ?_ _) | (with_reducible refine Kd.C_drewN ?_ _) | (with_reducible refine Kd.C_drew ?_))); (case side2 => exact HC177.out); rintro e w26 ⟨v179, rfl, ho0, hb⟩; refine ⟨_, rfl, ?_⟩; have n0_ := Aside0.mk (Kd.S_lower ho0 (below_size (by repeat (first | (with_reducible first | exact HB.out | apply below_alloc | apply pw_below_drewN | apply below_drew1 | refine below_set ?_ GE172.out) | exact HB.out)))); have n1_ := Aside0.mk (blk_below (g := gb172) (o := .cells #[.slice A0_0 l0_0.length c0_0] 44 (0, 0)) (by (with_reducible repeat (first | refine blk_drewN ?_ _ | refine blk_drew ?_ | refine blk_alloc ?_ _)); exact BK172.out) hb); have n2_ := Aside0.mk (below_step (by repeat (first | (with_reducible first | exact HB.out | apply below_alloc | apply pw_below_drewN | apply below_drew1 | refine below_set ?_ GE172.out) | exact HB.out)) hb); clear BK172; clear HB; have HO180 := n0_; have BK172 := n1_; have HB := n2_; clear n0_ n1_ n2_; (try clear hb); (try clear hb2); (try clear hk); (try clear hi); (try clear ho0); obtain ⟨Ao27, co27, eo27⟩ := Kd.S_slice HO180.out; subst eo27))
                        go_roundg k2
                        case measure => have := HJ1.out; have := HK2.out; omega
                        case rel => exact ⟨(x20_2), ((t178.length : Int)), (wrap64 (x20_2 + 1)), (by first | rfl | (simp; done) | (simp [*]; done)), (by first | rfl | (simp; done) | (simp [*]; done)), (by first | rfl | (simp; done) | (simp [*]; done)), H', ⟨by have := HJ1.out; have := HK2.out; omega⟩, ⟨by (with_reducible repeat (first | refine blk_drewN ?_ _ | refine blk_drew ?_ | refine blk_alloc ?_ _)); exact BK172.out⟩, ⟨by repeat (first | (with_reducible first | exact HB.out | apply below_alloc | apply pw_below_drewN | apply below_drew1 | refine below_set ?_ GE172.out) | exact HB.out)⟩⟩
                      · rw [if_neg c23] at H
                        have c23b0 : decide ((t178.length : Int) < x5_2) = false := decide_eq_false c23
                        clear c23
                        have H' := Aside0.mk H
                        clear H
                        have hcz28_0 : wr.cell? ⟨gb172, 0, none⟩ = some (.slice A0_0 l0_0.length c0_0) := (blk_cell BK172.out 0).trans rfl
                        have hfz28_0 := blk_frozen BK172.out 0
                        have q29 : ((wrap64 (x20_2 + 1)) : Int) ≤ ((l0_0.length : Int) : Int) := of_decide_eq_true (by first | (with_reducible assumption) | assumption)
                        obtain ⟨i029, hi029, _, hsz29, _⟩ := info_parts info77
                        have hroom29 : l0_0.length ≤ c0_0 := HC0_0.out
                        have hC29 : Kd.C k77 _ A0_0 l0_0.length l0_0 := HR0_0.out
                        have ql29 : (x20_2 : Int) ≤ ((wrap64 (x20_2 + 1)) : Int) := of_decide_eq_true (by first | (with_reducible assumption) | assumption)
                        have q029 : (0 : Int) ≤ (x20_2 : Int) := of_decide_eq_true (by first | (with_reducible assumption) | assumption)
                        have hcut29 := cut_mid (P := Try.prog) 42 77 .i64 .i64 Try.underlying42 hi029 3 hsz29 A0_0 l0_0.length c0_0 x20_2 (wrap64 (x20_2 + 1)) q029 ql29 q29 hroom29
                        have hr29 := Kd.C_mid (lo := (x20_2 : Int).toNat) (hi := ((wrap64 (x20_2 + 1)) : Int).toNat) (c := c0_0) hC29 (by omega) (by omega) hroom29
                        obtain ⟨A29, hA29⟩ : ∃ A1, A1 = (if c0_0 = (x20_2 : Int).toNat then A0_0 else (A0_0 : Option Addr).map (·.add ((x20_2 : Int).toNat * 3))) := ⟨_, rfl⟩
                        obtain ⟨c29, hc29⟩ : ∃ c1, c1 = c0_0 - (x20_2 : Int).toNat := ⟨_, rfl⟩
                        have hy29 : y174.length = ((wrap64 (x20_2 + 1)) : Int).toNat - (x20_2 : Int).toNat := (by rw [Ny174.out, List.length_drop, List.length_take] <;> omega)
                        rw [show ((l0_0).take ((wrap64 (x20_2 + 1)) : Int).toNat).drop (x20_2 : Int).toNat = y174 from Ny174.out.symm] at hr29
                        replace hr29 : Kd.C k77 _ A29 y174.length y174 := (by rw [hA29]; exact hr29)
                        rw [← hy29, ← hA29, ← hc29] at hcut29
                        have HR177 := Aside0.mk hr29
                        have HC177 := Aside0.mk (show y174.length ≤ c29 from by rw [hy29, hc29]; exact Nat.sub_le_sub_right (Nat.le_trans (by omega) hroom29) _)
                        clear hr29 hC29 hroom29 hi029 hsz29 hc29
                        have KY29 := Aside0.mk hy29
                        have KA29 := Aside0.mk hA29
                        clear hy29 hA29
                        replace q29 := eq_true q29
                        go_wp2_with (first | ((with_reducible refine gate_callee (f := 60) rfl ?_); refine goesL_ (some 29) rfl rfl Try.func60 (by kernel_rfl) rfl #[.slice A29 y174.length c29] rfl (by (try simp only [List.map_toArray, List.map_cons, List.map_nil]); first | done | rfl | (simp only [List.length_drop, List.length_take]; rfl)) ?_; (with_reducible refine (spec_pzAll.calls k2 _ _ y174 t178 _ ?side1 ?side2 A17.out).mono ?_); (case side1 => repeat (first | exact (Kd.C_below HR177.out HB.out) | (with_reducible refine Kd.C_alloc ?_ _) | (with_reducible refine Kd.C_drewN ?_ _) | (with_reducible refine Kd.C_drew ?_))); (case side2 => exact HC177.out); rintro e w30 ⟨v179, rfl, ho0, hb⟩; refine ⟨_, rfl, ?_⟩; have n0_ := Aside0.mk (Kd.S_lower ho0 (below_size (by repeat (first | (with_reducible first | exact HB.out | apply below_alloc | apply pw_below_drewN | apply below_drew1 | refine below_set ?_ GE172.out) | exact HB.out)))); have n1_ := Aside0.mk (blk_below (g := gb172) (o := .cells #[.slice A0_0 l0_0.length c0_0] 44 (0, 0)) (by (with_reducible repeat (first | refine blk_drewN ?_ _ | refine blk_drew ?_ | refine blk_alloc ?_ _)); exact BK172.out) hb); have n2_ := Aside0.mk (below_step (by repeat (first | (with_reducible first | exact HB.out | apply below_alloc | apply pw_below_drewN | apply below_drew1 | refine below_set ?_ GE172.out) | exact HB.out)) hb); clear BK172; clear HB; have HO180 := n0_; have BK172 := n1_; have HB := n2_; clear n0_ n1_ n2_; (try clear hb); (try clear hb2); (try clear hk); (try clear hi); (try clear ho0); obtain ⟨Ao31, co31, eo31⟩ := Kd.S_slice HO180.out; subst eo31))
                        go_roundg k2
                        case measure => have := HJ1.out; have := HK2.out; omega
                        case rel => exact ⟨(x4_2), (x5_2), (wrap64 (x20_2 + 1)), (by first | rfl | (simp; done) | (simp [*]; done)), (by first | rfl | (simp; done) | (simp [*]; done)), (by first | rfl | (simp; done) | (simp [*]; done)), H', ⟨by have := HJ1.out; have := HK2.out; omega⟩, ⟨by (with_reducible repeat (first | refine blk_drewN ?_ _ | refine blk_drew ?_ | refine blk_alloc ?_ _)); exact BK172.out⟩, ⟨by repeat (first | (with_reducible first | exact HB.out | apply below_alloc | apply pw_below_drewN | apply below_drew1 | refine below_set ?_ GE172.out) | exact HB.out)⟩⟩
                  · rw [if_neg c16] at H
                    exact absurd H (by simp)
                · rw [if_neg c15] at H
                  exact absurd H (by simp)
              · rw [if_neg c14] at H
                exact absurd H (by simp)
            · rw [if_neg c13] at H
              have c13b0 : decide (x20_2 < (l0_0.length : Int)) = false := decide_eq_false c13
              clear c13
              simp only [Option.some.injEq, Prod.mk.injEq] at H
              obtain ⟨rfl, rfl⟩ := H
              go_wp2
              go_ret2
              exact ⟨by first | rfl | (simp [errW_none, errW_some] <;> rfl) | (simp [*, errW_none, errW_some] <;> rfl), by repeat (first | (with_reducible first | exact HB.out | apply below_alloc | apply pw_below_drewN | apply below_drew1 | refine below_set ?_ GE172.out) | exact HB.out)⟩

end Go.Proofs.Ytmpmiomjfhcmdaa.PFnExactBestClue
