-- MADE FOR THIS CLAIM by wip/xp/xprint.py (with the kit's print; some functions' contracts proved by hand)
import Derived.Test.YtmpmiomjfhcmdaaPFnExactNeedlessCluesx0
import Derived.Test.YtmpmiomjfhcmdaaPFnExactNeedlessCluesx3
import Derived.Test.YtmpmiomjfhcmdaaPFnExactNeedlessCluesx5
namespace Go.Proofs.Ytmpmiomjfhcmdaa.PFnExactNeedlessClues
open Go.RowKit Go.Proofs.YtmpmiomjfhcmdaaW.PrintWords Go.Proofs.YtmpmiomjfhcmdaaW.PrintLast Go.Proofs.YtmpmiomjfhcmdaaW.PrintMore
attribute [local go_sem] max2_int min2_int max_two min_two max_three min_three max_four min_four   -- for this text's walks alone
set_option linter.unusedVariables false
set_option linter.unusedSimpArgs false

/-! ### spec_pzLook: function 92 -/
-- GIVEN loop.example/g01305/spec.pzLook raw=1
-- USES hidden idxO
/-- The piece from which a list goes on. -/
def fromOf (l : List Int) : Int := l.getLast?.getD 1
theorem fromOf_snoc (l : List Int) (q : Int) : fromOf (l ++ [q]) = q := by unfold fromOf; rw [List.getLast?_append]; rfl
theorem fromOf_rd (l : List Int) (h : 0 < l.length) : rd l ((l.length : Int) - 1) = fromOf l := by
  unfold fromOf rd
  rw [List.getLast?_eq_getElem?, show ((l.length : Int) - 1).toNat = l.length - 1 by omega, List.getD_eq_getElem?_getD, List.getElem?_eq_getElem (by omega)]
  rfl
/-- The first clue that a list does not fit, or -1. -/
def badS (k : Nat) (cs : List S77) (l : List Int) : Option Int := idxO (fun x : S77 => (spec_pzFits.f k x.f0 x.f1 x.f2 l).bind fun t => some (!t)) cs 0
theorem badS_mono (k : Nat) (cs : List S77) (l : List Int) : LeO (badS k cs l) (badS (k + 1) cs l) := idxO_le (fun x => LeO.bind (spec_pzFits.mono _ _ _ _ k) (fun _ => LeO.refl _)) _ _
def fitS (k : Nat) (cs : List S77) (l : List Int) : Bool := !(decide (0 ≤ (badS k cs l).getD 0))

/-- What a look has done. -/
def LookP (gO : Nat) (base : Nat) (w0 w : World) (v0 : Value) (tot : List (List Int)) (w' : World) : Prop :=
  ∃ v', w'.heap[gO]? = some (.cells #[v'] 22 (0, 0)) ∧ Kd.S (Kd.slice 3 (Kd.int .i64)) 26 w' base (fun _ => True) v' tot ∧ Kept w w' (fun k => k = gO ∨ some k = v0.ownBlock) ∧ (∀ k, v'.ownBlock = some k → v0.ownBlock = some k ∨ w.heap.size ≤ k) ∧ Below base w0 w'

set_option maxHeartbeats 4000000 in
set_option maxRecDepth 100000 in
theorem pzLook_calls (k : Nat) (Ac : Option Addr) (cc : Nat) (cs : List S77) (gO : Nat) (w0 : World) (hbO : w0.heap.size ≤ gO) (hCc : Kd.C k77 w0 Ac cs.length cs) (hcc : cs.length ≤ cc) : ∀ (d : Nat) (A : Option Addr) (c : Nat) (l : List Int) (v : Value) (xs : List (List Int)) (w : World),
    l.length + d = 4 → (∀ l' ∈ hidL d l (fromOf l), (badS k cs l').isSome = true) → 1 ≤ fromOf l → fromOf l ≤ 6 → (xs ++ (hidL d l (fromOf l)).filter (fitS k cs)).length ≤ 1000000 →
    w.heap[gO]? = some (.cells #[v] 22 (0, 0)) →
    Below w0.heap.size w0 w →
    Kd.S (Kd.slice 3 (Kd.int .i64)) 26 w w0.heap.size (fun k => some k ≠ (Value.slice A l.length c).ownBlock) v xs →
    Kd.R (Kd.int .i64) 3 w w0.heap.size (fun _ => True) (.slice A l.length c) l →
    Calls Try.prog 92 #[.slice Ac cs.length cc, .slice A l.length c, .pointer (some ⟨gO, 0, none⟩)] w fun e w' => e = .returned (.tuple #[]) ∧ LookP gO w0.heap.size w0 w v (xs ++ (hidL d l (fromOf l)).filter (fitS k cs)) w' := by
  intro d
  induction d with
  | zero =>
    intro A c l v xs w hl hsome hp1 hp6 hlen hO hB hS hR
    have HO := Aside0.mk hO
    have HB := Aside0.mk hB
    have HS := Aside0.mk hS
    have HR := Aside0.mk hR
    have HL := Aside0.mk hlen
    have HSO := Aside0.mk hsome
    have HC0 := Aside0.mk hCc
    obtain ⟨r, hr⟩ := Option.isSome_iff_exists.1 (hsome l (by simp [hidL]))
    have HR0 := Aside0.mk hr
    have hfit : fitS k cs l = !(decide (0 ≤ r)) := by unfold fitS; rw [hr]; rfl
    have HF := Aside0.mk hfit
    have hbig : cs.length ≤ 9223372036854775807 := hCc.2.1
    clear hO hB hS hR hlen hsome hr hfit hCc
    go_enter Try.func92, Try.ntmps92
    go_wp2
    go_loopg [6, 13] cs.length (fun gg s6 s13 wr => ∃ (b : Bool) (kk : Int), s6 = .bool b ∧ s13 = .int .i64 kk ∧ Aside0 (0 ≤ kk ∧ kk ≤ cs.length ∧ cs.length - kk ≤ gg) ∧ Aside0 (Below w.heap.size w wr) ∧ Aside0 (b = true ∧ idxO (fun x : S77 => (spec_pzFits.f k x.f0 x.f1 x.f2 l).bind fun t => some (!t)) (cs.drop kk.toNat) kk = some r ∨ b = false ∧ 0 ≤ r))
    case atStart => exact ⟨true, 0, by simp, by simp, ⟨by omega⟩, ⟨Below.refl _ w⟩, ⟨.inl ⟨rfl, HR0.out⟩⟩⟩
    case round =>
      obtain ⟨b, kk, rfl, rfl, HK, HBr, HA⟩ := hrel
      have ⟨hk0, hk1, hk2⟩ := HK.out
      by_cases hlt : kk < (cs.length : Int)
      · obtain ⟨ad, e1, hx0, hx1, hx2⟩ := at_T77 (Kd.C_below HC0.out (below_then HB.out HB.out.size HBr.out)) kk hk0 hlt
        cases e1
        have hlt0 := decide_eq_true hlt
        have hlt1 := eq_true hlt
        have hk01 := eq_true hk0
        have HRl := Aside0.mk (Kd.R_reads' (Kd.R_below HR.out HBr.out))
        cases b with
        | false =>
          have h0r : Aside0 (0 ≤ r) := ⟨by rcases HA.out with ⟨h, _⟩ | ⟨_, h⟩; cases h; exact h⟩
          clear hk2 hk1
          go_wp2
          go_roundg (gk - 1)
          case measure => have := HK.out; omega
          case rel =>
            have hK := HK.out
            exact ⟨false, kk + 1, rfl, (by first | rfl | rw [show wrap64 (kk + 1) = kk + 1 by unfold wrap64; omega]), ⟨by omega⟩, ⟨below_alloc HBr.out _⟩, ⟨.inr ⟨rfl, h0r.out⟩⟩⟩
        | true =>
          have h1 : idxO (fun x : S77 => (spec_pzFits.f k x.f0 x.f1 x.f2 l).bind fun t => some (!t)) (cs.drop kk.toNat) kk = some r := by rcases HA.out with ⟨_, h⟩ | ⟨h, _⟩; exact h; cases h
          rw [idxO_drop _ z77 cs kk hk0 hlt] at h1
          obtain ⟨t', ht', h1⟩ := Option.bind_eq_some_iff.1 h1
          obtain ⟨t, ht, e2⟩ := Option.bind_eq_some_iff.1 ht'
          obtain rfl := Option.some.inj e2
          have HT := Aside0.mk (show spec_pzFits.f k (rd_T77 cs kk).f0 (rd_T77 cs kk).f1 (rd_T77 cs kk).f2 l = some t from ht)
          have H1 := Aside0.mk h1
          clear h1 ht' ht e2 hk2 hk1
          go_wp2_with (first | ((try (refine gate_guard (by rfl) ?_; dsimp only)); go_at_call 116; refine (spec_pzFits.calls k (rd_T77 cs kk).f0 (rd_T77 cs kk).f1 (rd_T77 cs kk).f2 A c l t _ (Kd.C_alloc HRl.out.2.2 _) HRl.out.2.1 HT.out).mono ?_; rintro e w6 ⟨rfl, hb6⟩))
          go_roundg (gk - 1)
          case measure => have := HK.out; omega
          case rel =>
            have hK := HK.out
            refine ⟨t, kk + 1, (by first | rfl | simp), (by first | rfl | rw [show wrap64 (kk + 1) = kk + 1 by unfold wrap64; omega]), ⟨by omega⟩, ⟨below_step (below_alloc HBr.out _) hb6⟩, ⟨?_⟩⟩
            cases t with
            | true => exact .inl ⟨rfl, H1.out⟩
            | false => exact .inr ⟨rfl, by have e := Option.some.inj H1.out; omega⟩
      · have hlt0 := decide_eq_false hlt
        have hlt1 := eq_false hlt
        have hl4 : ((l.length : Int) == 4) = true := by simp; omega
        have HO1 := Aside0.mk (blk_below HO.out HBr.out)
        have HS1 := Aside0.mk (Kd.S_below HS.out HBr.out)
        have HRR := Aside0.mk (Kd.R_below HR.out HBr.out)
        have HB1 := Aside0.mk (below_then HB.out HB.out.size HBr.out)
        have hcO : wr.cell? ⟨gO, 0, none⟩ = some v := (blk_cell HO1.out 0).trans rfl
        clear hk2
        cases b with
        | true =>
          have hrm : r = -1 := by
            rcases HA.out with ⟨_, h⟩ | ⟨h, _⟩
            · rw [List.drop_of_length_le (by omega), idxO] at h; exact (Option.some.inj h).symm
            · cases h
          have HFT : Aside0 (fitS k cs l = true) := ⟨by rw [HF.out, hrm]; rfl⟩
          clear hrm
          go_wp2_with ((with_reducible refine gate_builtin (b := .append) (xs := #[.tmp 28, .tmp 30]) rfl ?_); at_builtin; refine Aside0.out ?_)
          refine Aside0.mk ?_
          refine Kd.S_append (Kd.slice 3 (Kd.int .i64)) (w0 := w0) w0.heap.size rfl (.tmp 28) (.tmp 30) 22 26 (.slice none 0 0) 24 rfl Try.underlying22 info26 rfl (by decide) (by omega) v xs l [.slice A l.length c] (fun _ => True) (fun k => some k = (Value.slice A l.length c).ownBlock) rfl (by first | (go_simp; done) | (go_simp; rfl)) ?aP ?aK ?aF ?aO ?aB ?aS ?aL ?_
          (case aP => exact Kd.M_row (Kd.R_mono (Kd.R_tight rfl HRR.out) (fun _ h_ => h_)))
          (case aK => intro k hk; refine ⟨trivial, fun e => ?_⟩; obtain ⟨cs1, h1⟩ := Kd.R_typed HRR.out k hk.symm; obtain ⟨cs2, h2⟩ := Kd.S_typed HS1.out k e.symm; rw [h1] at h2; cases h2)
          (case aF => exact fun _ _ => trivial)
          (case aO => exact (Kd.S_mono HS1.out (fun k hk => ⟨trivial, hk⟩)))
          (case aB => exact HB1.out)
          (case aS => exact HB1.out.size)
          (case aL => have := HL.out; simp [hidL, HFT.out] at this; omega)
          intro v1 w1 ho hb hg hat
          obtain ⟨A1, c1, rfl⟩ := Kd.S_slice ho
          generalize hn1 : (xs ++ [l]).length = n1 at *
          have hne := Kd.S_ne HS1.out HO1.out (by decide)
          have hOg := blk_grown HO1.out hg hne
          have hcO1 : w1.cell? ⟨gO, 0, none⟩ = some v := (blk_cell hOg 0).trans rfl
          have hfO1 := blk_frozen hOg 0
          have HO2 := Aside0.mk (blk_put hOg 0 (.slice A1 n1 c1) (cs' := #[.slice A1 n1 c1]) rfl)
          have HS2 := Aside0.mk (Kd.S_set ho hOg (by decide) 0 (.slice A1 n1 c1))
          have HK2 := Aside0.mk (Kept.setCell (p := ⟨gO, 0, none⟩) (Kept.of_grown hg (Kept.of_below HBr.out (fun k => k = gO ∨ some k = v.ownBlock)) (fun k e => .inl (.inr e.symm))) (.inl (.inl rfl)) (.slice A1 n1 c1))
          have HB2 := Aside0.mk (Below.setCell hb (p := ⟨gO, 0, none⟩) hbO (.slice A1 n1 c1))
          have HT2 : Aside0 (∀ k, (Value.slice A1 n1 c1).ownBlock = some k → v.ownBlock = some k ∨ w.heap.size ≤ k) := ⟨fun k e => by
            rcases hat with h | ⟨b, h, hb⟩
            · exact .inl (h ▸ e)
            · rw [h] at e; cases e; exact .inr (Nat.le_trans HBr.out.size hb)⟩
          clear hb ho hg hat hcO hOg HA HF HO1 HS1 HRR HB1
          go_wp2
          refine bodyPost_ret (results_none rfl _ _ _) rfl ?_
          exact ⟨rfl, _, HO2.out, by rw [show (hidL 0 l (fromOf l)).filter (fitS k cs) = [l] from by show [l].filter _ = _; rw [List.filter_cons, HFT.out]; rfl]; exact HS2.out, HK2.out, HT2.out, HB2.out⟩
        | false =>
          have h0r : 0 ≤ r := by rcases HA.out with ⟨h, _⟩ | ⟨_, h⟩; cases h; exact h
          have HFT : Aside0 (fitS k cs l = false) := ⟨by rw [HF.out, decide_eq_true h0r]; rfl⟩
          clear h0r
          have HO2 := HO1
          have HS2 := Aside0.mk (Kd.S_mono (ok' := fun _ => True) HS1.out (fun _ _ => trivial))
          have HK2 := Aside0.mk (Kept.of_below HBr.out (fun k => k = gO ∨ some k = v.ownBlock))
          have HB2 := HB1
          have HT2 : Aside0 (∀ k, v.ownBlock = some k → v.ownBlock = some k ∨ w.heap.size ≤ k) := ⟨fun k e => .inl e⟩
          clear hcO HA HF HO1 HS1 HRR HB1
          go_wp2
          refine bodyPost_ret (results_none rfl _ _ _) rfl ?_
          exact ⟨rfl, _, HO2.out, by rw [show (hidL 0 l (fromOf l)).filter (fitS k cs) = [] from by show [l].filter _ = _; rw [List.filter_cons, HFT.out]; rfl]; exact (by rw [List.append_nil]; exact HS2.out), HK2.out, HT2.out, HB2.out⟩
  | succ d ih =>
    intro A c l v xs w hl hsome hp1 hp6 hlen hO hB hS hR
    have HO := Aside0.mk hO
    have HB := Aside0.mk hB
    have HS := Aside0.mk hS
    have HR := Aside0.mk hR
    have HL := Aside0.mk hlen
    have IH := Aside0.mk ih
    have HSO := Aside0.mk hsome
    have HC0 := Aside0.mk hCc
    obtain ⟨r, hr⟩ := Option.isSome_iff_exists.1 (hsome l (by simp [hidL]))
    have HR0 := Aside0.mk hr
    have hfit : fitS k cs l = !(decide (0 ≤ r)) := by unfold fitS; rw [hr]; rfl
    have HF := Aside0.mk hfit
    have hbig : cs.length ≤ 9223372036854775807 := hCc.2.1
    clear hO hB hS hR hlen ih hsome hr hfit hCc
    go_enter Try.func92, Try.ntmps92
    go_wp2
    go_loopg [6, 13] cs.length (fun gg s6 s13 wr => ∃ (b : Bool) (kk : Int), s6 = .bool b ∧ s13 = .int .i64 kk ∧ Aside0 (0 ≤ kk ∧ kk ≤ cs.length ∧ cs.length - kk ≤ gg) ∧ Aside0 (Below w.heap.size w wr) ∧ Aside0 (b = true ∧ idxO (fun x : S77 => (spec_pzFits.f k x.f0 x.f1 x.f2 l).bind fun t => some (!t)) (cs.drop kk.toNat) kk = some r ∨ b = false ∧ 0 ≤ r))
    case atStart => exact ⟨true, 0, by simp, by simp, ⟨by omega⟩, ⟨Below.refl _ w⟩, ⟨.inl ⟨rfl, HR0.out⟩⟩⟩
    case round =>
      obtain ⟨b, kk, rfl, rfl, HK, HBr, HA⟩ := hrel
      have ⟨hk0, hk1, hk2⟩ := HK.out
      by_cases hlt : kk < (cs.length : Int)
      · obtain ⟨ad, e1, hx0, hx1, hx2⟩ := at_T77 (Kd.C_below HC0.out (below_then HB.out HB.out.size HBr.out)) kk hk0 hlt
        cases e1
        have hlt0 := decide_eq_true hlt
        have hlt1 := eq_true hlt
        have hk01 := eq_true hk0
        have HRl := Aside0.mk (Kd.R_reads' (Kd.R_below HR.out HBr.out))
        cases b with
        | false =>
          have h0r : Aside0 (0 ≤ r) := ⟨by rcases HA.out with ⟨h, _⟩ | ⟨_, h⟩; cases h; exact h⟩
          clear hk2 hk1
          go_wp2
          go_roundg (gk - 1)
          case measure => have := HK.out; omega
          case rel =>
            have hK := HK.out
            exact ⟨false, kk + 1, rfl, (by first | rfl | rw [show wrap64 (kk + 1) = kk + 1 by unfold wrap64; omega]), ⟨by omega⟩, ⟨below_alloc HBr.out _⟩, ⟨.inr ⟨rfl, h0r.out⟩⟩⟩
        | true =>
          have h1 : idxO (fun x : S77 => (spec_pzFits.f k x.f0 x.f1 x.f2 l).bind fun t => some (!t)) (cs.drop kk.toNat) kk = some r := by rcases HA.out with ⟨_, h⟩ | ⟨h, _⟩; exact h; cases h
          rw [idxO_drop _ z77 cs kk hk0 hlt] at h1
          obtain ⟨t', ht', h1⟩ := Option.bind_eq_some_iff.1 h1
          obtain ⟨t, ht, e2⟩ := Option.bind_eq_some_iff.1 ht'
          obtain rfl := Option.some.inj e2
          have HT := Aside0.mk (show spec_pzFits.f k (rd_T77 cs kk).f0 (rd_T77 cs kk).f1 (rd_T77 cs kk).f2 l = some t from ht)
          have H1 := Aside0.mk h1
          clear h1 ht' ht e2 hk2 hk1
          go_wp2_with (first | ((try (refine gate_guard (by rfl) ?_; dsimp only)); go_at_call 116; refine (spec_pzFits.calls k (rd_T77 cs kk).f0 (rd_T77 cs kk).f1 (rd_T77 cs kk).f2 A c l t _ (Kd.C_alloc HRl.out.2.2 _) HRl.out.2.1 HT.out).mono ?_; rintro e w6 ⟨rfl, hb6⟩))
          go_roundg (gk - 1)
          case measure => have := HK.out; omega
          case rel =>
            have hK := HK.out
            refine ⟨t, kk + 1, (by first | rfl | simp), (by first | rfl | rw [show wrap64 (kk + 1) = kk + 1 by unfold wrap64; omega]), ⟨by omega⟩, ⟨below_step (below_alloc HBr.out _) hb6⟩, ⟨?_⟩⟩
            cases t with
            | true => exact .inl ⟨rfl, H1.out⟩
            | false => exact .inr ⟨rfl, by have e := Option.some.inj H1.out; omega⟩
      · have hlt0 := decide_eq_false hlt
        have hlt1 := eq_false hlt
        have hl4 : ((l.length : Int) == 4) = false := by simp; omega
        have HO1 := Aside0.mk (blk_below HO.out HBr.out)
        have HS1 := Aside0.mk (Kd.S_below HS.out HBr.out)
        have HRR := Aside0.mk (Kd.R_below HR.out HBr.out)
        have HB1 := Aside0.mk (below_then HB.out HB.out.size HBr.out)
        have hcO : wr.cell? ⟨gO, 0, none⟩ = some v := (blk_cell HO1.out 0).trans rfl
        clear hk2
        cases b with
        | true =>
          have hrm : r = -1 := by
            rcases HA.out with ⟨_, h⟩ | ⟨h, _⟩
            · rw [List.drop_of_length_le (by omega), idxO] at h; exact (Option.some.inj h).symm
            · cases h
          have HFT : Aside0 (fitS k cs l = true) := ⟨by rw [HF.out, hrm]; rfl⟩
          clear hrm
          go_wp2_with ((with_reducible refine gate_builtin (b := .append) (xs := #[.tmp 28, .tmp 30]) rfl ?_); at_builtin; refine Aside0.out ?_)
          refine Aside0.mk ?_
          refine Kd.S_append (Kd.slice 3 (Kd.int .i64)) (w0 := w0) w0.heap.size rfl (.tmp 28) (.tmp 30) 22 26 (.slice none 0 0) 24 rfl Try.underlying22 info26 rfl (by decide) (by omega) v xs l [.slice A l.length c] (fun _ => True) (fun k => some k = (Value.slice A l.length c).ownBlock) rfl (by first | (go_simp; done) | (go_simp; rfl)) ?aP ?aK ?aF ?aO ?aB ?aS ?aL ?_
          (case aP => exact Kd.M_row (Kd.R_mono (Kd.R_tight rfl HRR.out) (fun _ h_ => h_)))
          (case aK => intro k hk; refine ⟨trivial, fun e => ?_⟩; obtain ⟨cs1, h1⟩ := Kd.R_typed HRR.out k hk.symm; obtain ⟨cs2, h2⟩ := Kd.S_typed HS1.out k e.symm; rw [h1] at h2; cases h2)
          (case aF => exact fun _ _ => trivial)
          (case aO => exact (Kd.S_mono HS1.out (fun k hk => ⟨trivial, hk⟩)))
          (case aB => exact HB1.out)
          (case aS => exact HB1.out.size)
          (case aL => have := HL.out; simp [hidL, HFT.out] at this; omega)
          intro v1 w1 ho hb hg hat
          obtain ⟨A1, c1, rfl⟩ := Kd.S_slice ho
          generalize hn1 : (xs ++ [l]).length = n1 at *
          have hne := Kd.S_ne HS1.out HO1.out (by decide)
          have hOg := blk_grown HO1.out hg hne
          have hcO1 : w1.cell? ⟨gO, 0, none⟩ = some v := (blk_cell hOg 0).trans rfl
          have hfO1 := blk_frozen hOg 0
          have HO2 := Aside0.mk (blk_put hOg 0 (.slice A1 n1 c1) (cs' := #[.slice A1 n1 c1]) rfl)
          have HS2 := Aside0.mk (Kd.S_set ho hOg (by decide) 0 (.slice A1 n1 c1))
          have HK2 := Aside0.mk (Kept.setCell (p := ⟨gO, 0, none⟩) (Kept.of_grown hg (Kept.of_below HBr.out (fun k => k = gO ∨ some k = v.ownBlock)) (fun k e => .inl (.inr e.symm))) (.inl (.inl rfl)) (.slice A1 n1 c1))
          have HB2 := Aside0.mk (Below.setCell hb (p := ⟨gO, 0, none⟩) hbO (.slice A1 n1 c1))
          have HT2 : Aside0 (∀ k, (Value.slice A1 n1 c1).ownBlock = some k → v.ownBlock = some k ∨ w.heap.size ≤ k) := ⟨fun k e => by
            rcases hat with h | ⟨b, h, hb⟩
            · exact .inl (h ▸ e)
            · rw [h] at e; cases e; exact .inr (Nat.le_trans HBr.out.size hb)⟩
          have HX2 : Aside0 ((xs ++ [l]) ++ (hidR d l (fromOf l)).filter (fitS k cs) = xs ++ (hidL (d + 1) l (fromOf l)).filter (fitS k cs)) := ⟨by
            show _ = xs ++ (l :: hidR d l (fromOf l)).filter (fitS k cs)
            rw [List.filter_cons, HFT.out, if_pos rfl, List.append_assoc]; rfl⟩
          have HSO2 : Aside0 (∀ l' ∈ hidR d l (fromOf l), (badS k cs l').isSome = true) := ⟨fun l' h' => HSO.out l' (List.mem_cons_of_mem _ h')⟩
          have HRr := Aside0.mk (Kd.R_reads' (Kd.R_kept (Kd.R_tight rfl HR.out) HK2.out (fun k hk h => by
            obtain ⟨cs1, h1⟩ := Kd.R_typed HR.out k hk.symm
            rcases h with rfl | h
            · rw [HO.out] at h1; cases h1
            · obtain ⟨cs2, h2⟩ := Kd.S_typed HS.out k h.symm; rw [h1] at h2; cases h2)))
          clear hb ho hg hat hcO hOg HA HF HFT HO1 HS1 HRR HB1
          by_cases hpos : 0 < (l.length : Int)
          · obtain ⟨ad, e1, hx⟩ := Kd.at_int HRr.out.2.2 ((l.length : Int) - 1) (by omega) (by omega)
            cases e1
            have HNIL := Aside0.mk (rfl : fromOf l = fromOf l)
            rw [fromOf_rd l (by omega), show ((l.length : Int) - 1).toNat = l.length - 1 by omega] at hx
            have hp0 := decide_eq_true hpos
            have hp1' := eq_true hpos
            go_wp2
            clear hp0 hp1' hx hpos
            go_loopg [10] 6 (fun gg v10 w' => ∃ (q : Int) (v' : Value) (xs' : List (List Int)), v10 = .int .i64 q ∧ Aside0 (1 ≤ q ∧ q ≤ 7 ∧ (7 - q).toNat ≤ gg) ∧ Aside0 (w'.heap[gO]? = some (.cells #[v'] 22 (0, 0))) ∧ Aside0 (Kd.S (Kd.slice 3 (Kd.int .i64)) 26 w' w0.heap.size (fun _ => True) v' xs') ∧ Aside0 (Kept w w' (fun k => k = gO ∨ some k = v.ownBlock)) ∧ Aside0 (∀ k, v'.ownBlock = some k → v.ownBlock = some k ∨ w.heap.size ≤ k) ∧ Aside0 (Below w0.heap.size w0 w') ∧ Aside0 (xs' ++ (hidR d l q).filter (fitS k cs) = xs ++ (hidL (d + 1) l (fromOf l)).filter (fitS k cs)) ∧ Aside0 (∀ l' ∈ hidR d l q, (badS k cs l').isSome = true))
            case atStart => exact ⟨fromOf l, _, (xs ++ [l]), (by first | rfl | (rw [HNIL.out])), ⟨hp1, by omega, by omega⟩, HO2, HS2, HK2, HT2, HB2, HX2, HSO2⟩
            case round =>
              clear HO2 HS2 HK2 HT2 HB2 HX2 HSO2
              obtain ⟨q, v', xs', rfl, HQ, HO', HS', HK', HT', HB', HX, HSO'⟩ := hrel
              have ⟨hq1, hq7, hqg⟩ := HQ.out
              by_cases hq : q ≤ 6
              · have hq0 := decide_eq_true hq
                have HRw := Aside0.mk (Kd.R_reads' (Kd.R_kept (Kd.R_tight rfl HR.out) HK'.out (fun k hk h => by
                  obtain ⟨cs1, h1⟩ := Kd.R_typed HR.out k hk.symm
                  rcases h with rfl | h
                  · rw [HO.out] at h1; cases h1
                  · obtain ⟨cs2, h2⟩ := Kd.S_typed HS.out k h.symm; rw [h1] at h2; cases h2)))
                have hl4 : l.length ≤ 4 := by omega
                have hle4 : (l ++ [q]).length + d = 4 := by simp; omega
                have hX : (xs' ++ (hidL d (l ++ [q]) q).filter (fitS k cs)) ++ (hidR d l (q + 1)).filter (fitS k cs) = xs ++ (hidL (d + 1) l (fromOf l)).filter (fitS k cs) := by have e := HX.out; rw [hidR_step d l q hq, List.filter_append] at e; rw [List.append_assoc]; exact e
                have hXl : (xs' ++ (hidL d (l ++ [q]) q).filter (fitS k cs)).length ≤ 1000000 := by have e := HL.out; rw [← hX, List.length_append] at e; omega
                have hsn := fromOf_snoc l q
                have hs1 : ∀ l' ∈ hidL d (l ++ [q]) (fromOf (l ++ [q])), (badS k cs l').isSome = true := by rw [hsn]; intro l' h'; exact HSO'.out l' (by rw [hidR_step d l q hq]; exact List.mem_append_left _ h')
                have hs2 : ∀ l' ∈ hidR d l (q + 1), (badS k cs l').isSome = true := fun l' h' => HSO'.out l' (by rw [hidR_step d l q hq]; exact List.mem_append_right _ h')
                have HX' := Aside0.mk hX
                have HXl := Aside0.mk hXl
                have HLE := Aside0.mk hle4
                have HSN := Aside0.mk hsn
                have HS1' := Aside0.mk hs1
                have HS2' := Aside0.mk hs2
                clear hX hXl hle4 HX hsn hs1 hs2
                go_wp2_with (first
                  | (go_at_call 82; refine (spec_l1Own.calls _ c l l _ HRw.out.2.2 HRw.out.2.1 (by unfold spec_l1Own.f; show (if ([] : List Int).length + l.length < 17592186044416 then some ([] ++ l) else none) = some l; rw [if_pos (by simp; omega), List.nil_append])).mono ?_; rintro e w3 ⟨v3, rfl, ho3, hb3⟩; have HB3 := Aside0.mk hb3; have HO3 := Aside0.mk ho3; clear ho3 hb3)
                  | ((with_reducible refine gate_builtin (b := .append) (xs := #[.tmp 52, .tmp 54]) rfl ?_); at_builtin; refine Kd.R_append_rows (Kd.int .i64) (w0 := wr) wr.heap.size rfl (.tmp 52) (.tmp 54) 26 3 (.int .i64 0) 8 rfl Try.underlying26 info3 rfl (by decide) (by omega) v3 l [q] _ _ _ (fun _ => True) (fun _ => False) rfl rfl ?aO ?aR (fun _ _ h => h) (fun _ h => h.elim) (fun _ _ => trivial) ?aB ?aS ?aL ?_; (case aO => exact Kd.R_alloc HO3.out _); (case aR => exact C_one ((blk_cell (blk_new w3 _) 0).trans rfl)); (case aB => exact below_alloc HB3.out _); (case aS => have := HB3.out.size; first | omega | (simp; omega)); (case aL => omega); intro v4 w4 ho4 hb4 hg4 hat4; obtain ⟨A4, c4, rfl⟩ := Kd.R_slice ho4; have HO4 := Aside0.mk ho4; have HB4 := Aside0.mk hb4; clear ho4 hb4 hg4 hat4; have ih4 := IH.out A4 c4 (l ++ [q]) v' xs' w4 HLE.out HS1'.out (by rw [HSN.out]; omega) (by rw [HSN.out]; omega) (by rw [HSN.out]; exact HXl.out) (blk_below HO'.out HB4.out) (below_then HB'.out HB'.out.size HB4.out) (Kd.S_mono (Kd.S_elder' HS'.out (Kd.R_base HO4.out) HB4.out) (fun k hk => hk.2)) (Kd.R_lower HO4.out HB'.out.size); rw [HSN.out, show (l ++ [q]).length = l.length + 1 from by simp] at ih4; have IHQ := Aside0.mk ih4; clear ih4)
                  | (go_at_call 92; refine IHQ.out.mono ?_; rintro e w5 ⟨rfl, v5, hO5, hS5, hK5, hT5, hB5⟩; have HO5 := Aside0.mk hO5; have HS5 := Aside0.mk hS5; have HK5 := Aside0.mk hK5; have HT5 := Aside0.mk hT5; have HB5 := Aside0.mk hB5; clear hO5 hS5 hK5 hT5 hB5))
                go_roundg (gk - 1)
                case measure => have := HQ.out; omega
                case rel =>
                  refine ⟨q + 1, v5, _, (by first | rfl | rw [show wrap64 (q + 1) = q + 1 by unfold wrap64; omega]), ⟨by omega, by omega, by omega⟩, HO5, HS5, ⟨?_⟩, ⟨?_⟩, HB5, HX', HS2'⟩
                  · exact (HK'.out.below HB4.out).then_ HK5.out (fun k hk => by
                      rcases hk with hk | hk
                      · exact .inl (.inl hk)
                      · rcases HT'.out k hk.symm with h | h
                        · exact .inl (.inr h.symm)
                        · exact .inr h)
                  · intro k hk
                    rcases HT5.out k hk with h | h
                    · exact HT'.out k h
                    · exact .inr (Nat.le_trans (Nat.le_trans HK'.out.1 HB4.out.size) h)
              · have hq0 := decide_eq_false hq
                go_wp2
                refine bodyPost_end (results_none rfl _ _ _) rfl ⟨rfl, v', HO'.out, ?_, HK'.out, HT'.out, HB'.out⟩
                have e := HX.out
                rw [hidR_end _ _ _ (by omega), List.filter_nil, List.append_nil] at e
                rw [← e]; exact HS'.out
          · have hp0 := decide_eq_false hpos
            have hp1' := eq_false hpos
            have HNIL : Aside0 (fromOf l = 1) := ⟨by have e : l = [] := List.length_eq_zero_iff.1 (by omega); rw [e]; rfl⟩
            go_wp2
            clear hp0 hp1' hpos
            go_loopg [10] 6 (fun gg v10 w' => ∃ (q : Int) (v' : Value) (xs' : List (List Int)), v10 = .int .i64 q ∧ Aside0 (1 ≤ q ∧ q ≤ 7 ∧ (7 - q).toNat ≤ gg) ∧ Aside0 (w'.heap[gO]? = some (.cells #[v'] 22 (0, 0))) ∧ Aside0 (Kd.S (Kd.slice 3 (Kd.int .i64)) 26 w' w0.heap.size (fun _ => True) v' xs') ∧ Aside0 (Kept w w' (fun k => k = gO ∨ some k = v.ownBlock)) ∧ Aside0 (∀ k, v'.ownBlock = some k → v.ownBlock = some k ∨ w.heap.size ≤ k) ∧ Aside0 (Below w0.heap.size w0 w') ∧ Aside0 (xs' ++ (hidR d l q).filter (fitS k cs) = xs ++ (hidL (d + 1) l (fromOf l)).filter (fitS k cs)) ∧ Aside0 (∀ l' ∈ hidR d l q, (badS k cs l').isSome = true))
            case atStart => exact ⟨fromOf l, _, (xs ++ [l]), (by first | rfl | (rw [HNIL.out])), ⟨hp1, by omega, by omega⟩, HO2, HS2, HK2, HT2, HB2, HX2, HSO2⟩
            case round =>
              clear HO2 HS2 HK2 HT2 HB2 HX2 HSO2
              obtain ⟨q, v', xs', rfl, HQ, HO', HS', HK', HT', HB', HX, HSO'⟩ := hrel
              have ⟨hq1, hq7, hqg⟩ := HQ.out
              by_cases hq : q ≤ 6
              · have hq0 := decide_eq_true hq
                have HRw := Aside0.mk (Kd.R_reads' (Kd.R_kept (Kd.R_tight rfl HR.out) HK'.out (fun k hk h => by
                  obtain ⟨cs1, h1⟩ := Kd.R_typed HR.out k hk.symm
                  rcases h with rfl | h
                  · rw [HO.out] at h1; cases h1
                  · obtain ⟨cs2, h2⟩ := Kd.S_typed HS.out k h.symm; rw [h1] at h2; cases h2)))
                have hl4 : l.length ≤ 4 := by omega
                have hle4 : (l ++ [q]).length + d = 4 := by simp; omega
                have hX : (xs' ++ (hidL d (l ++ [q]) q).filter (fitS k cs)) ++ (hidR d l (q + 1)).filter (fitS k cs) = xs ++ (hidL (d + 1) l (fromOf l)).filter (fitS k cs) := by have e := HX.out; rw [hidR_step d l q hq, List.filter_append] at e; rw [List.append_assoc]; exact e
                have hXl : (xs' ++ (hidL d (l ++ [q]) q).filter (fitS k cs)).length ≤ 1000000 := by have e := HL.out; rw [← hX, List.length_append] at e; omega
                have hsn := fromOf_snoc l q
                have hs1 : ∀ l' ∈ hidL d (l ++ [q]) (fromOf (l ++ [q])), (badS k cs l').isSome = true := by rw [hsn]; intro l' h'; exact HSO'.out l' (by rw [hidR_step d l q hq]; exact List.mem_append_left _ h')
                have hs2 : ∀ l' ∈ hidR d l (q + 1), (badS k cs l').isSome = true := fun l' h' => HSO'.out l' (by rw [hidR_step d l q hq]; exact List.mem_append_right _ h')
                have HX' := Aside0.mk hX
                have HXl := Aside0.mk hXl
                have HLE := Aside0.mk hle4
                have HSN := Aside0.mk hsn
                have HS1' := Aside0.mk hs1
                have HS2' := Aside0.mk hs2
                clear hX hXl hle4 HX hsn hs1 hs2
                go_wp2_with (first
                  | (go_at_call 82; refine (spec_l1Own.calls _ c l l _ HRw.out.2.2 HRw.out.2.1 (by unfold spec_l1Own.f; show (if ([] : List Int).length + l.length < 17592186044416 then some ([] ++ l) else none) = some l; rw [if_pos (by simp; omega), List.nil_append])).mono ?_; rintro e w3 ⟨v3, rfl, ho3, hb3⟩; have HB3 := Aside0.mk hb3; have HO3 := Aside0.mk ho3; clear ho3 hb3)
                  | ((with_reducible refine gate_builtin (b := .append) (xs := #[.tmp 52, .tmp 54]) rfl ?_); at_builtin; refine Kd.R_append_rows (Kd.int .i64) (w0 := wr) wr.heap.size rfl (.tmp 52) (.tmp 54) 26 3 (.int .i64 0) 8 rfl Try.underlying26 info3 rfl (by decide) (by omega) v3 l [q] _ _ _ (fun _ => True) (fun _ => False) rfl rfl ?aO ?aR (fun _ _ h => h) (fun _ h => h.elim) (fun _ _ => trivial) ?aB ?aS ?aL ?_; (case aO => exact Kd.R_alloc HO3.out _); (case aR => exact C_one ((blk_cell (blk_new w3 _) 0).trans rfl)); (case aB => exact below_alloc HB3.out _); (case aS => have := HB3.out.size; first | omega | (simp; omega)); (case aL => omega); intro v4 w4 ho4 hb4 hg4 hat4; obtain ⟨A4, c4, rfl⟩ := Kd.R_slice ho4; have HO4 := Aside0.mk ho4; have HB4 := Aside0.mk hb4; clear ho4 hb4 hg4 hat4; have ih4 := IH.out A4 c4 (l ++ [q]) v' xs' w4 HLE.out HS1'.out (by rw [HSN.out]; omega) (by rw [HSN.out]; omega) (by rw [HSN.out]; exact HXl.out) (blk_below HO'.out HB4.out) (below_then HB'.out HB'.out.size HB4.out) (Kd.S_mono (Kd.S_elder' HS'.out (Kd.R_base HO4.out) HB4.out) (fun k hk => hk.2)) (Kd.R_lower HO4.out HB'.out.size); rw [HSN.out, show (l ++ [q]).length = l.length + 1 from by simp] at ih4; have IHQ := Aside0.mk ih4; clear ih4)
                  | (go_at_call 92; refine IHQ.out.mono ?_; rintro e w5 ⟨rfl, v5, hO5, hS5, hK5, hT5, hB5⟩; have HO5 := Aside0.mk hO5; have HS5 := Aside0.mk hS5; have HK5 := Aside0.mk hK5; have HT5 := Aside0.mk hT5; have HB5 := Aside0.mk hB5; clear hO5 hS5 hK5 hT5 hB5))
                go_roundg (gk - 1)
                case measure => have := HQ.out; omega
                case rel =>
                  refine ⟨q + 1, v5, _, (by first | rfl | rw [show wrap64 (q + 1) = q + 1 by unfold wrap64; omega]), ⟨by omega, by omega, by omega⟩, HO5, HS5, ⟨?_⟩, ⟨?_⟩, HB5, HX', HS2'⟩
                  · exact (HK'.out.below HB4.out).then_ HK5.out (fun k hk => by
                      rcases hk with hk | hk
                      · exact .inl (.inl hk)
                      · rcases HT'.out k hk.symm with h | h
                        · exact .inl (.inr h.symm)
                        · exact .inr h)
                  · intro k hk
                    rcases HT5.out k hk with h | h
                    · exact HT'.out k h
                    · exact .inr (Nat.le_trans (Nat.le_trans HK'.out.1 HB4.out.size) h)
              · have hq0 := decide_eq_false hq
                go_wp2
                refine bodyPost_end (results_none rfl _ _ _) rfl ⟨rfl, v', HO'.out, ?_, HK'.out, HT'.out, HB'.out⟩
                have e := HX.out
                rw [hidR_end _ _ _ (by omega), List.filter_nil, List.append_nil] at e
                rw [← e]; exact HS'.out
        | false =>
          have h0r : 0 ≤ r := by rcases HA.out with ⟨h, _⟩ | ⟨_, h⟩; cases h; exact h
          have HFT : Aside0 (fitS k cs l = false) := ⟨by rw [HF.out, decide_eq_true h0r]; rfl⟩
          clear h0r
          have HO2 := HO1
          have HS2 := Aside0.mk (Kd.S_mono (ok' := fun _ => True) HS1.out (fun _ _ => trivial))
          have HK2 := Aside0.mk (Kept.of_below HBr.out (fun k => k = gO ∨ some k = v.ownBlock))
          have HB2 := HB1
          have HT2 : Aside0 (∀ k, v.ownBlock = some k → v.ownBlock = some k ∨ w.heap.size ≤ k) := ⟨fun k e => .inl e⟩
          have HX2 : Aside0 (xs ++ (hidR d l (fromOf l)).filter (fitS k cs) = xs ++ (hidL (d + 1) l (fromOf l)).filter (fitS k cs)) := ⟨by
            show _ = xs ++ (l :: hidR d l (fromOf l)).filter (fitS k cs)
            rw [List.filter_cons, HFT.out, if_neg (by decide)]⟩
          have HSO2 : Aside0 (∀ l' ∈ hidR d l (fromOf l), (badS k cs l').isSome = true) := ⟨fun l' h' => HSO.out l' (List.mem_cons_of_mem _ h')⟩
          have HRr := Aside0.mk (Kd.R_reads' HRR.out)
          clear hcO HA HF HFT HO1 HS1 HRR HB1
          by_cases hpos : 0 < (l.length : Int)
          · obtain ⟨ad, e1, hx⟩ := Kd.at_int HRr.out.2.2 ((l.length : Int) - 1) (by omega) (by omega)
            cases e1
            have HNIL := Aside0.mk (rfl : fromOf l = fromOf l)
            rw [fromOf_rd l (by omega), show ((l.length : Int) - 1).toNat = l.length - 1 by omega] at hx
            have hp0 := decide_eq_true hpos
            have hp1' := eq_true hpos
            go_wp2
            clear hp0 hp1' hx hpos
            go_loopg [10] 6 (fun gg v10 w' => ∃ (q : Int) (v' : Value) (xs' : List (List Int)), v10 = .int .i64 q ∧ Aside0 (1 ≤ q ∧ q ≤ 7 ∧ (7 - q).toNat ≤ gg) ∧ Aside0 (w'.heap[gO]? = some (.cells #[v'] 22 (0, 0))) ∧ Aside0 (Kd.S (Kd.slice 3 (Kd.int .i64)) 26 w' w0.heap.size (fun _ => True) v' xs') ∧ Aside0 (Kept w w' (fun k => k = gO ∨ some k = v.ownBlock)) ∧ Aside0 (∀ k, v'.ownBlock = some k → v.ownBlock = some k ∨ w.heap.size ≤ k) ∧ Aside0 (Below w0.heap.size w0 w') ∧ Aside0 (xs' ++ (hidR d l q).filter (fitS k cs) = xs ++ (hidL (d + 1) l (fromOf l)).filter (fitS k cs)) ∧ Aside0 (∀ l' ∈ hidR d l q, (badS k cs l').isSome = true))
            case atStart => exact ⟨fromOf l, _, xs, (by first | rfl | (rw [HNIL.out])), ⟨hp1, by omega, by omega⟩, HO2, HS2, HK2, HT2, HB2, HX2, HSO2⟩
            case round =>
              clear HO2 HS2 HK2 HT2 HB2 HX2 HSO2
              obtain ⟨q, v', xs', rfl, HQ, HO', HS', HK', HT', HB', HX, HSO'⟩ := hrel
              have ⟨hq1, hq7, hqg⟩ := HQ.out
              by_cases hq : q ≤ 6
              · have hq0 := decide_eq_true hq
                have HRw := Aside0.mk (Kd.R_reads' (Kd.R_kept (Kd.R_tight rfl HR.out) HK'.out (fun k hk h => by
                  obtain ⟨cs1, h1⟩ := Kd.R_typed HR.out k hk.symm
                  rcases h with rfl | h
                  · rw [HO.out] at h1; cases h1
                  · obtain ⟨cs2, h2⟩ := Kd.S_typed HS.out k h.symm; rw [h1] at h2; cases h2)))
                have hl4 : l.length ≤ 4 := by omega
                have hle4 : (l ++ [q]).length + d = 4 := by simp; omega
                have hX : (xs' ++ (hidL d (l ++ [q]) q).filter (fitS k cs)) ++ (hidR d l (q + 1)).filter (fitS k cs) = xs ++ (hidL (d + 1) l (fromOf l)).filter (fitS k cs) := by have e := HX.out; rw [hidR_step d l q hq, List.filter_append] at e; rw [List.append_assoc]; exact e
                have hXl : (xs' ++ (hidL d (l ++ [q]) q).filter (fitS k cs)).length ≤ 1000000 := by have e := HL.out; rw [← hX, List.length_append] at e; omega
                have hsn := fromOf_snoc l q
                have hs1 : ∀ l' ∈ hidL d (l ++ [q]) (fromOf (l ++ [q])), (badS k cs l').isSome = true := by rw [hsn]; intro l' h'; exact HSO'.out l' (by rw [hidR_step d l q hq]; exact List.mem_append_left _ h')
                have hs2 : ∀ l' ∈ hidR d l (q + 1), (badS k cs l').isSome = true := fun l' h' => HSO'.out l' (by rw [hidR_step d l q hq]; exact List.mem_append_right _ h')
                have HX' := Aside0.mk hX
                have HXl := Aside0.mk hXl
                have HLE := Aside0.mk hle4
                have HSN := Aside0.mk hsn
                have HS1' := Aside0.mk hs1
                have HS2' := Aside0.mk hs2
                clear hX hXl hle4 HX hsn hs1 hs2
                go_wp2_with (first
                  | (go_at_call 82; refine (spec_l1Own.calls _ c l l _ HRw.out.2.2 HRw.out.2.1 (by unfold spec_l1Own.f; show (if ([] : List Int).length + l.length < 17592186044416 then some ([] ++ l) else none) = some l; rw [if_pos (by simp; omega), List.nil_append])).mono ?_; rintro e w3 ⟨v3, rfl, ho3, hb3⟩; have HB3 := Aside0.mk hb3; have HO3 := Aside0.mk ho3; clear ho3 hb3)
                  | ((with_reducible refine gate_builtin (b := .append) (xs := #[.tmp 52, .tmp 54]) rfl ?_); at_builtin; refine Kd.R_append_rows (Kd.int .i64) (w0 := wr) wr.heap.size rfl (.tmp 52) (.tmp 54) 26 3 (.int .i64 0) 8 rfl Try.underlying26 info3 rfl (by decide) (by omega) v3 l [q] _ _ _ (fun _ => True) (fun _ => False) rfl rfl ?aO ?aR (fun _ _ h => h) (fun _ h => h.elim) (fun _ _ => trivial) ?aB ?aS ?aL ?_; (case aO => exact Kd.R_alloc HO3.out _); (case aR => exact C_one ((blk_cell (blk_new w3 _) 0).trans rfl)); (case aB => exact below_alloc HB3.out _); (case aS => have := HB3.out.size; first | omega | (simp; omega)); (case aL => omega); intro v4 w4 ho4 hb4 hg4 hat4; obtain ⟨A4, c4, rfl⟩ := Kd.R_slice ho4; have HO4 := Aside0.mk ho4; have HB4 := Aside0.mk hb4; clear ho4 hb4 hg4 hat4; have ih4 := IH.out A4 c4 (l ++ [q]) v' xs' w4 HLE.out HS1'.out (by rw [HSN.out]; omega) (by rw [HSN.out]; omega) (by rw [HSN.out]; exact HXl.out) (blk_below HO'.out HB4.out) (below_then HB'.out HB'.out.size HB4.out) (Kd.S_mono (Kd.S_elder' HS'.out (Kd.R_base HO4.out) HB4.out) (fun k hk => hk.2)) (Kd.R_lower HO4.out HB'.out.size); rw [HSN.out, show (l ++ [q]).length = l.length + 1 from by simp] at ih4; have IHQ := Aside0.mk ih4; clear ih4)
                  | (go_at_call 92; refine IHQ.out.mono ?_; rintro e w5 ⟨rfl, v5, hO5, hS5, hK5, hT5, hB5⟩; have HO5 := Aside0.mk hO5; have HS5 := Aside0.mk hS5; have HK5 := Aside0.mk hK5; have HT5 := Aside0.mk hT5; have HB5 := Aside0.mk hB5; clear hO5 hS5 hK5 hT5 hB5))
                go_roundg (gk - 1)
                case measure => have := HQ.out; omega
                case rel =>
                  refine ⟨q + 1, v5, _, (by first | rfl | rw [show wrap64 (q + 1) = q + 1 by unfold wrap64; omega]), ⟨by omega, by omega, by omega⟩, HO5, HS5, ⟨?_⟩, ⟨?_⟩, HB5, HX', HS2'⟩
                  · exact (HK'.out.below HB4.out).then_ HK5.out (fun k hk => by
                      rcases hk with hk | hk
                      · exact .inl (.inl hk)
                      · rcases HT'.out k hk.symm with h | h
                        · exact .inl (.inr h.symm)
                        · exact .inr h)
                  · intro k hk
                    rcases HT5.out k hk with h | h
                    · exact HT'.out k h
                    · exact .inr (Nat.le_trans (Nat.le_trans HK'.out.1 HB4.out.size) h)
              · have hq0 := decide_eq_false hq
                go_wp2
                refine bodyPost_end (results_none rfl _ _ _) rfl ⟨rfl, v', HO'.out, ?_, HK'.out, HT'.out, HB'.out⟩
                have e := HX.out
                rw [hidR_end _ _ _ (by omega), List.filter_nil, List.append_nil] at e
                rw [← e]; exact HS'.out
          · have hp0 := decide_eq_false hpos
            have hp1' := eq_false hpos
            have HNIL : Aside0 (fromOf l = 1) := ⟨by have e : l = [] := List.length_eq_zero_iff.1 (by omega); rw [e]; rfl⟩
            go_wp2
            clear hp0 hp1' hpos
            go_loopg [10] 6 (fun gg v10 w' => ∃ (q : Int) (v' : Value) (xs' : List (List Int)), v10 = .int .i64 q ∧ Aside0 (1 ≤ q ∧ q ≤ 7 ∧ (7 - q).toNat ≤ gg) ∧ Aside0 (w'.heap[gO]? = some (.cells #[v'] 22 (0, 0))) ∧ Aside0 (Kd.S (Kd.slice 3 (Kd.int .i64)) 26 w' w0.heap.size (fun _ => True) v' xs') ∧ Aside0 (Kept w w' (fun k => k = gO ∨ some k = v.ownBlock)) ∧ Aside0 (∀ k, v'.ownBlock = some k → v.ownBlock = some k ∨ w.heap.size ≤ k) ∧ Aside0 (Below w0.heap.size w0 w') ∧ Aside0 (xs' ++ (hidR d l q).filter (fitS k cs) = xs ++ (hidL (d + 1) l (fromOf l)).filter (fitS k cs)) ∧ Aside0 (∀ l' ∈ hidR d l q, (badS k cs l').isSome = true))
            case atStart => exact ⟨fromOf l, _, xs, (by first | rfl | (rw [HNIL.out])), ⟨hp1, by omega, by omega⟩, HO2, HS2, HK2, HT2, HB2, HX2, HSO2⟩
            case round =>
              clear HO2 HS2 HK2 HT2 HB2 HX2 HSO2
              obtain ⟨q, v', xs', rfl, HQ, HO', HS', HK', HT', HB', HX, HSO'⟩ := hrel
              have ⟨hq1, hq7, hqg⟩ := HQ.out
              by_cases hq : q ≤ 6
              · have hq0 := decide_eq_true hq
                have HRw := Aside0.mk (Kd.R_reads' (Kd.R_kept (Kd.R_tight rfl HR.out) HK'.out (fun k hk h => by
                  obtain ⟨cs1, h1⟩ := Kd.R_typed HR.out k hk.symm
                  rcases h with rfl | h
                  · rw [HO.out] at h1; cases h1
                  · obtain ⟨cs2, h2⟩ := Kd.S_typed HS.out k h.symm; rw [h1] at h2; cases h2)))
                have hl4 : l.length ≤ 4 := by omega
                have hle4 : (l ++ [q]).length + d = 4 := by simp; omega
                have hX : (xs' ++ (hidL d (l ++ [q]) q).filter (fitS k cs)) ++ (hidR d l (q + 1)).filter (fitS k cs) = xs ++ (hidL (d + 1) l (fromOf l)).filter (fitS k cs) := by have e := HX.out; rw [hidR_step d l q hq, List.filter_append] at e; rw [List.append_assoc]; exact e
                have hXl : (xs' ++ (hidL d (l ++ [q]) q).filter (fitS k cs)).length ≤ 1000000 := by have e := HL.out; rw [← hX, List.length_append] at e; omega
                have hsn := fromOf_snoc l q
                have hs1 : ∀ l' ∈ hidL d (l ++ [q]) (fromOf (l ++ [q])), (badS k cs l').isSome = true := by rw [hsn]; intro l' h'; exact HSO'.out l' (by rw [hidR_step d l q hq]; exact List.mem_append_left _ h')
                have hs2 : ∀ l' ∈ hidR d l (q + 1), (badS k cs l').isSome = true := fun l' h' => HSO'.out l' (by rw [hidR_step d l q hq]; exact List.mem_append_right _ h')
                have HX' := Aside0.mk hX
                have HXl := Aside0.mk hXl
                have HLE := Aside0.mk hle4
                have HSN := Aside0.mk hsn
                have HS1' := Aside0.mk hs1
                have HS2' := Aside0.mk hs2
                clear hX hXl hle4 HX hsn hs1 hs2
                go_wp2_with (first
                  | (go_at_call 82; refine (spec_l1Own.calls _ c l l _ HRw.out.2.2 HRw.out.2.1 (by unfold spec_l1Own.f; show (if ([] : List Int).length + l.length < 17592186044416 then some ([] ++ l) else none) = some l; rw [if_pos (by simp; omega), List.nil_append])).mono ?_; rintro e w3 ⟨v3, rfl, ho3, hb3⟩; have HB3 := Aside0.mk hb3; have HO3 := Aside0.mk ho3; clear ho3 hb3)
                  | ((with_reducible refine gate_builtin (b := .append) (xs := #[.tmp 52, .tmp 54]) rfl ?_); at_builtin; refine Kd.R_append_rows (Kd.int .i64) (w0 := wr) wr.heap.size rfl (.tmp 52) (.tmp 54) 26 3 (.int .i64 0) 8 rfl Try.underlying26 info3 rfl (by decide) (by omega) v3 l [q] _ _ _ (fun _ => True) (fun _ => False) rfl rfl ?aO ?aR (fun _ _ h => h) (fun _ h => h.elim) (fun _ _ => trivial) ?aB ?aS ?aL ?_; (case aO => exact Kd.R_alloc HO3.out _); (case aR => exact C_one ((blk_cell (blk_new w3 _) 0).trans rfl)); (case aB => exact below_alloc HB3.out _); (case aS => have := HB3.out.size; first | omega | (simp; omega)); (case aL => omega); intro v4 w4 ho4 hb4 hg4 hat4; obtain ⟨A4, c4, rfl⟩ := Kd.R_slice ho4; have HO4 := Aside0.mk ho4; have HB4 := Aside0.mk hb4; clear ho4 hb4 hg4 hat4; have ih4 := IH.out A4 c4 (l ++ [q]) v' xs' w4 HLE.out HS1'.out (by rw [HSN.out]; omega) (by rw [HSN.out]; omega) (by rw [HSN.out]; exact HXl.out) (blk_below HO'.out HB4.out) (below_then HB'.out HB'.out.size HB4.out) (Kd.S_mono (Kd.S_elder' HS'.out (Kd.R_base HO4.out) HB4.out) (fun k hk => hk.2)) (Kd.R_lower HO4.out HB'.out.size); rw [HSN.out, show (l ++ [q]).length = l.length + 1 from by simp] at ih4; have IHQ := Aside0.mk ih4; clear ih4)
                  | (go_at_call 92; refine IHQ.out.mono ?_; rintro e w5 ⟨rfl, v5, hO5, hS5, hK5, hT5, hB5⟩; have HO5 := Aside0.mk hO5; have HS5 := Aside0.mk hS5; have HK5 := Aside0.mk hK5; have HT5 := Aside0.mk hT5; have HB5 := Aside0.mk hB5; clear hO5 hS5 hK5 hT5 hB5))
                go_roundg (gk - 1)
                case measure => have := HQ.out; omega
                case rel =>
                  refine ⟨q + 1, v5, _, (by first | rfl | rw [show wrap64 (q + 1) = q + 1 by unfold wrap64; omega]), ⟨by omega, by omega, by omega⟩, HO5, HS5, ⟨?_⟩, ⟨?_⟩, HB5, HX', HS2'⟩
                  · exact (HK'.out.below HB4.out).then_ HK5.out (fun k hk => by
                      rcases hk with hk | hk
                      · exact .inl (.inl hk)
                      · rcases HT'.out k hk.symm with h | h
                        · exact .inl (.inr h.symm)
                        · exact .inr h)
                  · intro k hk
                    rcases HT5.out k hk with h | h
                    · exact HT'.out k h
                    · exact .inr (Nat.le_trans (Nat.le_trans HK'.out.1 HB4.out.size) h)
              · have hq0 := decide_eq_false hq
                go_wp2
                refine bodyPost_end (results_none rfl _ _ _) rfl ⟨rfl, v', HO'.out, ?_, HK'.out, HT'.out, HB'.out⟩
                have e := HX.out
                rw [hidR_end _ _ _ (by omega), List.filter_nil, List.append_nil] at e
                rw [← e]; exact HS'.out


/-! ### spec_pzAll: function 60 -/
-- GIVEN loop.example/g01305/spec.pzAll rounds=1
/-- Those of the hidden pieces that fit all clues, if that can be told of each. -/
def spec_pzAll.f (k : Nat) (cs : List S77) : Option (List (List Int)) := if (hidL 4 [] 1).all (fun l => (badS k cs l).isSome) = true then some ((hidL 4 [] 1).filter (fitS k cs)) else none
theorem spec_pzAll.mono : ∀ (cs : List S77) k, LeO (spec_pzAll.f k cs) (spec_pzAll.f (k + 1) cs) := by
  intro cs k r h
  unfold spec_pzAll.f at h ⊢
  by_cases c : (hidL 4 [] 1).all (fun l => (badS k cs l).isSome) = true
  · rw [if_pos c] at h
    have e : ∀ l ∈ hidL 4 [] 1, badS (k + 1) cs l = badS k cs l := by
      intro l hl
      have := List.all_eq_true.1 c l hl
      obtain ⟨r, hr⟩ := Option.isSome_iff_exists.1 this
      rw [hr, badS_mono k cs l r hr]
    rw [if_pos, ← h]
    · congr 1
      exact List.filter_congr (fun l hl => by unfold fitS; rw [e l hl])
    · exact List.all_eq_true.2 (fun l hl => by rw [e l hl]; exact List.all_eq_true.1 c l hl)
  · rw [if_neg c] at h; cases h

set_option maxHeartbeats 4000000 in
theorem spec_pzAll.calls (k : Nat) (A0 : Option Addr) (c0 : Nat) (l0 : List S77) (r : List (List Int)) (w : World) (hr0 : Kd.C k77 w A0 l0.length l0) (hc0 : l0.length ≤ c0) (h : spec_pzAll.f k l0 = some r) :
    Calls Try.prog 60 #[.slice A0 l0.length c0] w fun e w' => ∃ v0_ : Value, e = .returned (v0_) ∧ Kd.S (Kd.slice 3 (Kd.int .i64)) 26 w' w.heap.size (fun _ => True) v0_ r ∧ Below w.heap.size w w' := by
  unfold spec_pzAll.f at h
  by_cases c : (hidL 4 [] 1).all (fun l => (badS k l0 l).isSome) = true
  · rw [if_pos c] at h
    obtain rfl := Option.some.inj h
    have hL := pzLook_calls k A0 c0 l0 w.heap.size w (Nat.le_refl _) hr0 hc0 4 none 0 [] (.slice none 0 0) [] (w.alloc (.cells #[.slice none 0 0] 22)) rfl (fun l' hl => List.all_eq_true.1 c l' hl) (by decide) (by decide)
      (by
        refine Nat.le_trans (List.length_filter_le _ _) ?_
        exact (Nat.le_of_ble_eq_true (by kernel_rfl) : (hidL 4 [] 1).length ≤ 1000000))
      (blk_new w _) (below_alloc (Below.refl _ _) _) (Kd.S_nil _ _ _ _ _) (Kd.R_nil _ _ _ _ _)
    have HL := Aside0.mk hL
    clear hL h c hr0
    go_enter Try.func60, Try.ntmps60
    go_wp2_with (go_at_call 92; refine HL.out.mono ?_; rintro e w2 ⟨rfl, v2, hO2, hS2, hK2, hT2, hB2⟩; have hcO2 : w2.cell? ⟨w.heap.size, 0, none⟩ = some v2 := (blk_cell hO2 0).trans rfl)
    go_ret
    exact ⟨_, rfl, hS2, hB2⟩
  · rw [if_neg c] at h; cases h


/-! ### spec_pzWithout: function 69 -/
def spec_pzWithout.f (l0 : List (S77)) (a1 : Int) : Option ((List (S77))) := (some (([] : List (S77)) : List (S77))).bind fun y182 => (if 0 ≤ a1 then (if a1 ≤ (l0.length : Int) then ((some (l0.take (a1 : Int).toNat : List (S77))).bind fun y185 => (if y182.length + y185.length < 5864062014805 then ((some (y182 ++ y185 : List (S77))).bind fun y189 => (if 0 ≤ (wrap64 (a1 + 1)) then (if (wrap64 (a1 + 1)) ≤ (l0.length : Int) then ((some (l0.drop ((wrap64 (a1 + 1)) : Int).toNat : List (S77))).bind fun y192 => (if y189.length + y192.length < 5864062014805 then (some (y189 ++ y192)) else (none))) else (none)) else (none))) else (none))) else (none)) else (none))
def spec_pzWithout.T1 : Bool × List (List Nat × List Nat) := (true, [([], []), ([], []), ([], []), ([1, 2], [1, 2]), ([0, 3], [0, 3]), ([], []), ([], []), ([6], [6]), ([5, 7], [5, 7]), ([4, 8, 4], [4, 8]), ([9, 9, 0, 1, 2, 3, 4, 5, 6, 7, 8, 9], [9])])
def spec_pzWithout.B1 : List Nat := [0, 0, 0, 6, 15, 0, 0, 64, 224, 511, 1023]
theorem spec_pzWithout.tab1 : rtab .any (opsOf Try.f69 1) = spec_pzWithout.T1 := by kernel_rfl
theorem spec_pzWithout.bits1 : waitsOk spec_pzWithout.T1.2 spec_pzWithout.B1 = true := by kernel_rfl
set_option maxHeartbeats 8000000 in
set_option maxRecDepth 100000 in
theorem spec_pzWithout.calls (A0 : Option Addr) (c0 : Nat) (l0 : List (S77)) (a1 : Int) (r : List (S77)) (w : World) (hr0 : Kd.C k77 w A0 l0.length l0) (hc0 : l0.length ≤ c0) (h : spec_pzWithout.f l0 a1 = some r) :
    Calls Try.prog 69 #[.slice A0 l0.length c0, .int .i64 a1] w fun e w' => ∃ v0_ : Value, e = .returned (v0_) ∧ Kd.R k77 77 w' w.heap.size (fun _ => True) v0_ r ∧ Below w.heap.size w w' := by
  have HR0 := Aside0.mk hr0
  have HC0 := Aside0.mk hc0
  clear hr0 hc0
  have HB := Aside0.mk (Below.refl w.heap.size w)
  have H : ((some (([] : List (S77)) : List (S77))).bind fun y182 => (if 0 ≤ a1 then (if a1 ≤ (l0.length : Int) then ((some (l0.take (a1 : Int).toNat : List (S77))).bind fun y185 => (if y182.length + y185.length < 5864062014805 then ((some (y182 ++ y185 : List (S77))).bind fun y189 => (if 0 ≤ (wrap64 (a1 + 1)) then (if (wrap64 (a1 + 1)) ≤ (l0.length : Int) then ((some (l0.drop ((wrap64 (a1 + 1)) : Int).toNat : List (S77))).bind fun y192 => (if y189.length + y192.length < 5864062014805 then (some (y189 ++ y192)) else (none))) else (none)) else (none))) else (none))) else (none)) else (none))) = some r := h
  clear h
  obtain ⟨y182, hy182⟩ : ∃ y_ : List (S77), y_ = (([] : List (S77))) := ⟨_, rfl⟩
  replace H : (if 0 ≤ a1 then (if a1 ≤ (l0.length : Int) then ((some (l0.take (a1 : Int).toNat : List (S77))).bind fun y185 => (if y182.length + y185.length < 5864062014805 then ((some (y182 ++ y185 : List (S77))).bind fun y189 => (if 0 ≤ (wrap64 (a1 + 1)) then (if (wrap64 (a1 + 1)) ≤ (l0.length : Int) then ((some (l0.drop ((wrap64 (a1 + 1)) : Int).toNat : List (S77))).bind fun y192 => (if y189.length + y192.length < 5864062014805 then (some (y189 ++ y192)) else (none))) else (none)) else (none))) else (none))) else (none)) else (none)) = some r := by first | (rw [hy182]; with_reducible exact H) | (have H2_ := (Option.bind_some _ _).symm.trans H; rw [hy182]; with_reducible exact H2_) | (have H2_ := (Option.bind_some _ _).symm.trans H; with_reducible exact H2_) | with_reducible exact H | (rw [hy182]; exact H) | exact H
  have Ny182 := Aside0.mk hy182
  clear hy182
  by_cases c3 : 0 ≤ a1
  · rw [if_pos c3] at H
    have c3b0 := eq_true c3
    have c3b1 : decide (0 ≤ a1) = true := decide_eq_true c3
    clear c3
    by_cases c4 : a1 ≤ (l0.length : Int)
    · rw [if_pos c4] at H
      have c4b0 := eq_true c4
      have c4b1 : decide (a1 ≤ (l0.length : Int)) = true := decide_eq_true c4
      clear c4
      obtain ⟨y185, hy185⟩ : ∃ y_ : List (S77), y_ = (l0.take (a1 : Int).toNat) := ⟨_, rfl⟩
      replace H : (if y182.length + y185.length < 5864062014805 then ((some (y182 ++ y185 : List (S77))).bind fun y189 => (if 0 ≤ (wrap64 (a1 + 1)) then (if (wrap64 (a1 + 1)) ≤ (l0.length : Int) then ((some (l0.drop ((wrap64 (a1 + 1)) : Int).toNat : List (S77))).bind fun y192 => (if y189.length + y192.length < 5864062014805 then (some (y189 ++ y192)) else (none))) else (none)) else (none))) else (none)) = some r := by first | (rw [hy185]; with_reducible exact H) | (have H2_ := (Option.bind_some _ _).symm.trans H; rw [hy185]; with_reducible exact H2_) | (have H2_ := (Option.bind_some _ _).symm.trans H; with_reducible exact H2_) | with_reducible exact H | (rw [hy185]; exact H) | exact H
      have Ny185 := Aside0.mk hy185
      clear hy185
      by_cases c5 : y182.length + y185.length < 5864062014805
      · rw [if_pos c5] at H
        have LMc5 := Aside0.mk c5
        clear c5
        obtain ⟨y189, hy189⟩ : ∃ y_ : List (S77), y_ = (y182 ++ y185) := ⟨_, rfl⟩
        replace H : (if 0 ≤ (wrap64 (a1 + 1)) then (if (wrap64 (a1 + 1)) ≤ (l0.length : Int) then ((some (l0.drop ((wrap64 (a1 + 1)) : Int).toNat : List (S77))).bind fun y192 => (if y189.length + y192.length < 5864062014805 then (some (y189 ++ y192)) else (none))) else (none)) else (none)) = some r := by first | (rw [hy189]; with_reducible exact H) | (have H2_ := (Option.bind_some _ _).symm.trans H; rw [hy189]; with_reducible exact H2_) | (have H2_ := (Option.bind_some _ _).symm.trans H; with_reducible exact H2_) | with_reducible exact H | (rw [hy189]; exact H) | exact H
        have Ny189 := Aside0.mk hy189
        clear hy189
        obtain ⟨ji6, hji6⟩ : ∃ j_ : Int, (wrap64 (a1 + 1)) = j_ := ⟨_, rfl⟩
        replace H : (if 0 ≤ (ji6) then (if (ji6) ≤ (l0.length : Int) then ((some (l0.drop ((ji6) : Int).toNat : List (S77))).bind fun y192 => (if y189.length + y192.length < 5864062014805 then (some (y189 ++ y192)) else (none))) else (none)) else (none)) = some r := by first | (rw [hji6] at H; exact H) | (simp only [hji6] at H ⊢; exact H)
        have hji6w : (IntKind.i64.wrap (a1 + 1)) = ji6 := (i64_w _).trans hji6
        by_cases c7 : 0 ≤ (ji6)
        · rw [if_pos c7] at H
          have c7b0 := eq_true c7
          have c7b1 : decide (0 ≤ (ji6)) = true := decide_eq_true c7
          clear c7
          by_cases c8 : (ji6) ≤ (l0.length : Int)
          · rw [if_pos c8] at H
            have c8b0 := eq_true c8
            have c8b1 : decide ((ji6) ≤ (l0.length : Int)) = true := decide_eq_true c8
            clear c8
            obtain ⟨y192, hy192⟩ : ∃ y_ : List (S77), y_ = (l0.drop ((ji6) : Int).toNat) := ⟨_, rfl⟩
            replace H : (if y189.length + y192.length < 5864062014805 then (some (y189 ++ y192)) else (none)) = some r := by first | (rw [hy192]; with_reducible exact H) | (have H2_ := (Option.bind_some _ _).symm.trans H; rw [hy192]; with_reducible exact H2_) | (have H2_ := (Option.bind_some _ _).symm.trans H; with_reducible exact H2_) | with_reducible exact H | (rw [hy192]; exact H) | exact H
            have Ny192 := Aside0.mk hy192
            clear hy192
            by_cases c9 : y189.length + y192.length < 5864062014805
            · rw [if_pos c9] at H
              have LMc9 := Aside0.mk c9
              clear c9
              obtain ⟨y196, hy196⟩ : ∃ y_ : List (S77), y_ = (y189 ++ y192) := ⟨_, rfl⟩
              replace H : (some y196) = some r := by first | (rw [hy196]; with_reducible exact H) | (have H2_ := (Option.bind_some _ _).symm.trans H; rw [hy196]; with_reducible exact H2_) | (have H2_ := (Option.bind_some _ _).symm.trans H; with_reducible exact H2_) | with_reducible exact H | (rw [hy196]; exact H) | exact H
              have Ny196 := Aside0.mk hy196
              clear hy196
              obtain rfl := Option.some.inj H
              go_enter Try.func69, Try.ntmps69
              try go_wp2
              have n0_ := Aside0.mk (below_drew1 HB.out)
              clear HB
              have HB := n0_
              clear n0_
              have q11 : (a1 : Int) ≤ ((l0.length : Int) : Int) := of_decide_eq_true (by first | (with_reducible assumption) | assumption)
              obtain ⟨i011, hi011, _, hsz11, _⟩ := info_parts info77
              have hroom11 : l0.length ≤ c0 := HC0.out
              have hC11 : Kd.C k77 _ A0 l0.length l0 := HR0.out
              have hcut11 := cut_to (P := Try.prog) 42 77 .i64 Try.underlying42 hi011 A0 l0.length c0 a1 (of_decide_eq_true (by first | (with_reducible assumption) | assumption)) q11 hroom11
              have hr11 := Kd.C_take (m := (a1 : Int).toNat) hC11 (by omega)
              have hy11 : y185.length = (a1 : Int).toNat := (by rw [Ny185.out, List.length_take]; omega)
              rw [← Ny185.out] at hr11
              rw [← hy11] at hcut11
              have HR188 := Aside0.mk hr11
              have HC188 := Aside0.mk (show y185.length ≤ c0 from by omega)
              clear hr11 hC11 hroom11 hi011 hsz11
              have KY11 := Aside0.mk hy11
              clear hy11
              replace q11 := eq_true q11
              have q12 : ((ji6) : Int) ≤ ((l0.length : Int) : Int) := of_decide_eq_true (by first | (with_reducible assumption) | assumption)
              obtain ⟨i012, hi012, _, hsz12, _⟩ := info_parts info77
              have hroom12 : l0.length ≤ c0 := HC0.out
              have hC12 : Kd.C k77 _ A0 l0.length l0 := HR0.out
              have q012 : (0 : Int) ≤ ((ji6) : Int) := of_decide_eq_true (by first | (with_reducible assumption) | assumption)
              have hcut12 := cut_from (P := Try.prog) 42 77 .i64 Try.underlying42 hi012 3 hsz12 A0 l0.length c0 (ji6) q012 q12
              have hr12 := Kd.C_drop (m := ((ji6) : Int).toNat) (c := c0) hC12 (by omega) hroom12
              obtain ⟨A12, hA12⟩ : ∃ A1, A1 = (if c0 = ((ji6) : Int).toNat then A0 else (A0 : Option Addr).map (·.add (((ji6) : Int).toNat * 3))) := ⟨_, rfl⟩
              obtain ⟨c12, hc12⟩ : ∃ c1, c1 = c0 - ((ji6) : Int).toNat := ⟨_, rfl⟩
              have hy12 : y192.length = l0.length - ((ji6) : Int).toNat := (by rw [Ny192.out, List.length_drop] <;> omega)
              rw [show (l0).drop ((ji6) : Int).toNat = y192 from Ny192.out.symm] at hr12
              replace hr12 : Kd.C k77 _ A12 y192.length y192 := (by rw [hA12]; exact hr12)
              rw [← hy12, ← hA12, ← hc12] at hcut12
              have HR195 := Aside0.mk hr12
              have HC195 := Aside0.mk (show y192.length ≤ c12 from by rw [hy12, hc12]; exact Nat.sub_le_sub_right hroom12 _)
              clear hr12 hC12 hroom12 hi012 hsz12 hc12
              have KY12 := Aside0.mk hy12
              have KA12 := Aside0.mk hA12
              clear hy12 hA12
              replace q12 := eq_true q12
              refine start_ (n := 11) (S := fun w' => True) (ds := []) #[false, false, false, false, false, false, false, false, false, false, false] (by kernel_rfl) rfl rfl trivial (fun hHeld => ?_); refine with_tabW spec_pzWithout.tab1 spec_pzWithout.bits1 (fun HT_ HW_ => ?_)
              generalize w.drew = w10 at HB HR188 HR195 hHeld ⊢
              refine pure_ (i := 1) (N := some 6) (v := ?_) (a' := ?_) #[false, true, false, false, false, false, false, false, false, false, false] rfl rfl (any_of HT_.out (by kernel_rfl)) (fun _ _ _ h => h) (Or.inl ⟨by rfl, ?_⟩) ?_ ?_
              rotate_left
              · intro w'
                go_simp
                with_reducible rfl
              rotate_left
              · simp only [Act.put, List.setIfInBounds_toArray, List.set_cons_zero, List.set_cons_succ, i64_w, i32_w]
                rfl
              refine pure_ (i := 2) (N := some 7) (v := ?_) (a' := ?_) #[false, true, true, false, false, false, false, false, false, false, false] rfl rfl (any_of HT_.out (by kernel_rfl)) (fun _ _ _ h => h) (Or.inl ⟨by rfl, ?_⟩) ?_ ?_
              rotate_left
              · intro w'
                go_simp
                with_reducible rfl
              rotate_left
              · simp only [Act.put, List.setIfInBounds_toArray, List.set_cons_zero, List.set_cons_succ, i64_w, i32_w]
                rfl
              refine pure_ (i := 3) (N := some 8) (v := ?_) (a' := ?_) #[false, true, true, true, false, false, false, false, false, false, false] rfl rfl (any_of HT_.out (by kernel_rfl)) (fun _ _ _ h => h) (Or.inl ⟨by rfl, ?_⟩) ?_ ?_
              rotate_left
              · intro w'
                go_simp
                with_reducible rfl
              rotate_left
              · simp only [Act.put, List.setIfInBounds_toArray, List.set_cons_zero, List.set_cons_succ, i64_w, i32_w]
                rfl
              refine pure_ (i := 5) (N := some 10) (v := ?_) (a' := ?_) #[false, true, true, true, false, true, false, false, false, false, false] rfl rfl (any_of HT_.out (by kernel_rfl)) (fun _ _ _ h => h) (Or.inl ⟨by rfl, ?_⟩) ?_ ?_
              rotate_left
              · intro w'
                go_simp
                with_reducible rfl
              rotate_left
              · simp only [Act.put, List.setIfInBounds_toArray, List.set_cons_zero, List.set_cons_succ, i64_w, i32_w]
                rfl
              refine pure_ (i := 6) (N := some 11) (v := ?_) (a' := ?_) #[false, true, true, true, false, true, true, false, false, false, false] rfl rfl (any_of HT_.out (by kernel_rfl)) (fun _ _ _ h => h) (Or.inl ⟨by rfl, ?_⟩) ?_ ?_
              rotate_left
              · intro w'
                go_simp
                with_reducible rfl
              rotate_left
              · simp only [Act.put, List.setIfInBounds_toArray, List.set_cons_zero, List.set_cons_succ, i64_w, i32_w]
                rfl
              refine pure_ (i := 7) (N := some 12) (v := ?_) (a' := ?_) #[false, true, true, true, false, true, true, true, false, false, false] rfl rfl (any_of HT_.out (by kernel_rfl)) (fun _ _ _ h => h) (Or.inl ⟨by rfl, ?_⟩) ?_ ?_
              rotate_left
              · intro w'
                go_simp
                with_reducible rfl
              rotate_left
              · simp only [Act.put, List.setIfInBounds_toArray, List.set_cons_zero, List.set_cons_succ, i64_w, i32_w]
                rfl
              refine pure_ (i := 8) (N := some 13) (v := ?_) (a' := ?_) #[false, true, true, true, false, true, true, true, true, false, false] rfl rfl (any_of HT_.out (by kernel_rfl)) (fun _ _ _ h => h) (Or.inl ⟨by rfl, ?_⟩) ?_ ?_
              rotate_left
              · intro w'
                go_simp
                with_reducible rfl
              rotate_left
              · simp only [Act.put, List.setIfInBounds_toArray, List.set_cons_zero, List.set_cons_succ, i64_w, i32_w]
                rfl
              refine one_ (i := 0) (N := some 5) #[true, true, true, true, false, true, true, true, true, false, false] rfl rfl (one_of HT_.out (by kernel_rfl)) (by decide) (fun K hK => ?_)
              refine Kd.R_lit_step k77 _ 77 ?hg (N := 5) ?hd (xs := ([] : List (S77))) (inner := []) (ok := fun _ => True) (okp := fun _ => True) ?hr ?hp (fun _ hk => hk) trivial (Below.refl _ _) (Nat.le_refl _) (by simp) ?_; (case hd => rfl); (case hg => rfl); (case hr => first | (go_simp; done) | (go_simp; rfl)); (case hp => exact (Reps.none _ _))
              intro v183 w13 ho14 hb hg_ hnew_
              clear hg_ hnew_
              (first | rw [← Ny182.out] at ho14 | (simp only [Int.reduceToNat] at ho14; rw [← Ny182.out] at ho14))
              have n0_ := Aside0.mk (Kd.R_lower ho14 (below_size (by repeat (first | (with_reducible first | exact HB.out | apply below_alloc | apply pw_below_drewN | apply below_drew1) | exact HB.out))))
              have n1_ := Aside0.mk (below_step (by repeat (first | (with_reducible first | exact HB.out | apply below_alloc | apply pw_below_drewN | apply below_drew1) | exact HB.out)) hb)
              clear HB
              have HO184 := n0_
              have HB := n1_
              clear n0_ n1_
              clear hb ho14
              refine hK.out _ _ trivial (fun hHeld => ?_)
              clear hK K
              refine norm_ (a' := ?_) ?_ ?_
              rotate_left
              · show Act.put _ (some 5) _ = _
                simp only [Act.put, List.setIfInBounds_toArray, List.set_cons_zero, List.set_cons_succ, i64_w, i32_w]
                rfl
              refine one_ (i := 4) (N := some 9) #[true, true, true, true, true, true, true, true, true, false, false] rfl rfl (one_of HT_.out (by kernel_rfl)) (by decide) (fun K hK => ?_)
              refine Kd.R_append_rows_step k77 (w0 := w) w.heap.size (by rfl) (.tmp 5) (.tmp 8) 42 77 (.agg #[(.int .i64 0), (.int .i64 0), (.int .i64 0)]) 24 rfl Try.underlying42 info77 rfl (by decide) (by omega) v183 y182 y185 _ _ _ (fun _ => True) (fun _ => False) rfl rfl ?aO ?aR (fun _ _ h => h) (fun _ h => h.elim) ?aF ?aB ?aS ?aL ?_
              (case aR => repeat (first | exact (Kd.C_below HR188.out HB.out) | (with_reducible refine Kd.C_alloc ?_ _) | (with_reducible refine Kd.C_drewN ?_ _) | (with_reducible refine Kd.C_drew ?_)))
              (case aB => exact (by repeat (first | (with_reducible first | exact HB.out | apply below_alloc | apply pw_below_drewN | apply below_drew1) | exact HB.out)))
              (case aF => exact (fun _ _ => trivial))
              (case aO => exact (by (with_reducible repeat (first | apply Kd.R_alloc | apply Kd.R_drewN | apply Kd.R_drew)); exact HO184.out))
              (case aS => exact (below_size (by repeat (first | (with_reducible first | exact HB.out | apply below_alloc | apply pw_below_drewN | apply below_drew1) | exact HB.out))))
              (case aL => have := LMc5.out; omega)
              intro v190 w15 ho hb hg hat
              rw [← Ny189.out] at ho
              have n0_ := Aside0.mk (hb)
              have n1_ := Aside0.mk (ho)
              clear HB
              clear HO184
              have HB := n0_
              have HO191 := n1_
              clear n0_ n1_
              clear ho hb hg hat
              refine hK.out _ _ trivial (fun hHeld => ?_)
              clear hK K
              refine norm_ (a' := ?_) ?_ ?_
              rotate_left
              · show Act.put _ (some 9) _ = _
                simp only [Act.put, List.setIfInBounds_toArray, List.set_cons_zero, List.set_cons_succ, i64_w, i32_w]
                rfl
              refine one_ (i := 9) (N := some 14) #[true, true, true, true, true, true, true, true, true, true, false] rfl rfl (one_of HT_.out (by kernel_rfl)) (by decide) (fun K hK => ?_)
              refine Kd.R_append_rows_step k77 (w0 := w) w.heap.size (by rfl) (.tmp 9) (.tmp 13) 42 77 (.agg #[(.int .i64 0), (.int .i64 0), (.int .i64 0)]) 24 rfl Try.underlying42 info77 rfl (by decide) (by omega) v190 y189 y192 _ _ _ (fun _ => True) (fun _ => False) rfl rfl ?aO ?aR (fun _ _ h => h) (fun _ h => h.elim) ?aF ?aB ?aS ?aL ?_
              (case aR => repeat (first | exact (Kd.C_below HR195.out HB.out) | (with_reducible refine Kd.C_alloc ?_ _) | (with_reducible refine Kd.C_drewN ?_ _) | (with_reducible refine Kd.C_drew ?_)))
              (case aB => exact (by repeat (first | (with_reducible first | exact HB.out | apply below_alloc | apply pw_below_drewN | apply below_drew1) | exact HB.out)))
              (case aF => exact (fun _ _ => trivial))
              (case aO => exact (by (with_reducible repeat (first | apply Kd.R_alloc | apply Kd.R_drewN | apply Kd.R_drew)); exact HO191.out))
              (case aS => exact (below_size (by repeat (first | (with_reducible first | exact HB.out | apply below_alloc | apply pw_below_drewN | apply below_drew1) | exact HB.out))))
              (case aL => have := LMc9.out; omega)
              intro v197 w16 ho hb hg hat
              rw [← Ny196.out] at ho
              have n0_ := Aside0.mk (hb)
              have n1_ := Aside0.mk (ho)
              clear HB
              clear HO191
              have HB := n0_
              have HO198 := n1_
              clear n0_ n1_
              clear ho hb hg hat
              refine hK.out _ _ trivial (fun hHeld => ?_)
              clear hK K
              refine norm_ (a' := ?_) ?_ ?_
              rotate_left
              · show Act.put _ (some 14) _ = _
                simp only [Act.put, List.setIfInBounds_toArray, List.set_cons_zero, List.set_cons_succ, i64_w, i32_w]
                rfl
              refine pure_ (i := 10) (N := some 4) (v := ?_) (a' := ?_) #[true, true, true, true, true, true, true, true, true, true, true] rfl rfl (any_of HT_.out (by kernel_rfl)) (fun _ _ _ h => h) (Or.inl ⟨by rfl, ?_⟩) ?_ ?_
              rotate_left
              · intro w'
                go_simp
                with_reducible rfl
              rotate_left
              · simp only [Act.put, List.setIfInBounds_toArray, List.set_cons_zero, List.set_cons_succ, i64_w, i32_w]
                rfl
              refine done_ (done_of HT_.out (by kernel_rfl)) ?_
              try go_wp2
              go_ret
              exact ⟨_, by first | rfl | (simp [errW_none, errW_some] <;> rfl) | (simp only [← hji6]; first | rfl | (simp [errW_none, errW_some] <;> rfl)) | (simp [*, errW_none, errW_some] <;> rfl), by (with_reducible repeat (first | apply Kd.R_alloc | apply Kd.R_drewN | apply Kd.R_drew)); exact HO198.out, by repeat (first | (with_reducible first | exact HB.out | apply below_alloc | apply pw_below_drewN | apply below_drew1) | exact HB.out)⟩
            · rw [if_neg c9] at H
              exact absurd H (by simp)
          · rw [if_neg c8] at H
            exact absurd H (by simp)
        · rw [if_neg c7] at H
          exact absurd H (by simp)
      · rw [if_neg c5] at H
        exact absurd H (by simp)
    · rw [if_neg c4] at H
      exact absurd H (by simp)
  · rw [if_neg c3] at H
    exact absurd H (by simp)

end Go.Proofs.Ytmpmiomjfhcmdaa.PFnExactNeedlessClues
