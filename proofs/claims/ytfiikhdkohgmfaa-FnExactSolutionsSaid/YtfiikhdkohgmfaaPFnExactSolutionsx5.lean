-- MADE FOR THIS CLAIM by wip/xp/xprint.py (with the kit's print; some functions' contracts proved by hand)
import Derived.Test.YtfiikhdkohgmfaaPFnExactSolutionsx0
import Derived.Test.YtfiikhdkohgmfaaPFnExactSolutionsx2
import Derived.Test.YtfiikhdkohgmfaaPFnExactSolutionsx4
namespace Go.Proofs.Ytfiikhdkohgmfaa.PFnExactSolutions
open Go.RowKit Go.Proofs.YtfiikhdkohgmfaaW.PrintWords Go.Proofs.YtfiikhdkohgmfaaW.PrintLast Go.Proofs.YtfiikhdkohgmfaaW.PrintMore
attribute [local go_sem] max2_int min2_int max_two min_two max_three min_three max_four min_four   -- for this text's walks alone
set_option linter.unusedVariables false
set_option linter.unusedSimpArgs false

/-! ### spec_pzLook: function 107 -/
-- GIVEN loop.example/g01305/spec.pzLook raw=1
-- USES hidden idxO
/-- The piece from which a list goes on. -/
def fromOf (l : List Int) : Int := l.getLast?.getD 1
theorem fromOf_snoc (l : List Int) (q : Int) : fromOf (l ++ [q]) = q := by unfold fromOf; rw [List.getLast?_append]; rfl
theorem fromOf_rd (l : List Int) (h : 0 < l.length) : rd l ((l.length : Int) - 1) = fromOf l := by
  unfold fromOf rd
  rw [List.getLast?_eq_getElem?, show ((l.length : Int) - 1).toNat = l.length - 1 by omega, List.getD_eq_getElem?_getD, List.getElem?_eq_getElem (by omega)]
  rfl
/-- The first clue that a list does not fit, or -1. -/
def badS (k : Nat) (cs : List S76) (l : List Int) : Option Int := idxO (fun x : S76 => (spec_pzFits.f k x.f0 x.f1 x.f2 l).bind fun t => some (!t)) cs 0
theorem badS_mono (k : Nat) (cs : List S76) (l : List Int) : LeO (badS k cs l) (badS (k + 1) cs l) := idxO_le (fun x => LeO.bind (spec_pzFits.mono _ _ _ _ k) (fun _ => LeO.refl _)) _ _
def fitS (k : Nat) (cs : List S76) (l : List Int) : Bool := !(decide (0 ≤ (badS k cs l).getD 0))

/-- What a look has done. -/
def LookP (gO : Nat) (base : Nat) (w0 w : World) (v0 : Value) (tot : List (List Int)) (w' : World) : Prop :=
  ∃ v', w'.heap[gO]? = some (.cells #[v'] 38 (0, 0)) ∧ Kd.S (Kd.slice 3 (Kd.int .i64)) 26 w' base (fun _ => True) v' tot ∧ Kept w w' (fun k => k = gO ∨ some k = v0.ownBlock) ∧ (∀ k, v'.ownBlock = some k → v0.ownBlock = some k ∨ w.heap.size ≤ k) ∧ Below base w0 w'

set_option maxHeartbeats 4000000 in
set_option maxRecDepth 100000 in
theorem pzLook_calls (k : Nat) (Ac : Option Addr) (cc : Nat) (cs : List S76) (gO : Nat) (w0 : World) (hbO : w0.heap.size ≤ gO) (hCc : Kd.C k76 w0 Ac cs.length cs) (hcc : cs.length ≤ cc) : ∀ (d : Nat) (A : Option Addr) (c : Nat) (l : List Int) (v : Value) (xs : List (List Int)) (w : World),
    l.length + d = 4 → (∀ l' ∈ hidL d l (fromOf l), (badS k cs l').isSome = true) → 1 ≤ fromOf l → fromOf l ≤ 6 → (xs ++ (hidL d l (fromOf l)).filter (fitS k cs)).length ≤ 1000000 →
    w.heap[gO]? = some (.cells #[v] 38 (0, 0)) →
    Below w0.heap.size w0 w →
    Kd.S (Kd.slice 3 (Kd.int .i64)) 26 w w0.heap.size (fun k => some k ≠ (Value.slice A l.length c).ownBlock) v xs →
    Kd.R (Kd.int .i64) 3 w w0.heap.size (fun _ => True) (.slice A l.length c) l →
    Calls Try.prog 107 #[.slice Ac cs.length cc, .slice A l.length c, .pointer (some ⟨gO, 0, none⟩)] w fun e w' => e = .returned (.tuple #[]) ∧ LookP gO w0.heap.size w0 w v (xs ++ (hidL d l (fromOf l)).filter (fitS k cs)) w' := by
  intro d
  induction d with
  | zero =>
    intro A c l v xs w hl hsome hp1 hp6 hlen hO hB hS hR
    have HO := Aside0.mk hO
    have HB := Aside0.mk hB
    have HS := Aside0.mk hS
    have HR := Aside0.mk hR
    have HL := Aside0.mk hlen
    have HSO := Aside0.mk hsome
    have HC0 := Aside0.mk hCc
    obtain ⟨r, hr⟩ := Option.isSome_iff_exists.1 (hsome l (by simp [hidL]))
    have HR0 := Aside0.mk hr
    have hfit : fitS k cs l = !(decide (0 ≤ r)) := by unfold fitS; rw [hr]; rfl
    have HF := Aside0.mk hfit
    have hbig : cs.length ≤ 9223372036854775807 := hCc.2.1
    clear hO hB hS hR hlen hsome hr hfit hCc
    go_enter Try.func107, Try.ntmps107
    go_wp2
    go_loopg [6, 13] cs.length (fun gg s6 s13 wr => ∃ (b : Bool) (kk : Int), s6 = .bool b ∧ s13 = .int .i64 kk ∧ Aside0 (0 ≤ kk ∧ kk ≤ cs.length ∧ cs.length - kk ≤ gg) ∧ Aside0 (Below w.heap.size w wr) ∧ Aside0 (b = true ∧ idxO (fun x : S76 => (spec_pzFits.f k x.f0 x.f1 x.f2 l).bind fun t => some (!t)) (cs.drop kk.toNat) kk = some r ∨ b = false ∧ 0 ≤ r))
    case atStart => exact ⟨true, 0, by simp, by simp, ⟨by omega⟩, ⟨Below.refl _ w⟩, ⟨.inl ⟨rfl, HR0.out⟩⟩⟩
    case round =>
      obtain ⟨b, kk, rfl, rfl, HK, HBr, HA⟩ := hrel
      have ⟨hk0, hk1, hk2⟩ := HK.out
      by_cases hlt : kk < (cs.length : Int)
      · obtain ⟨ad, e1, hx0, hx1, hx2⟩ := at_T76 (Kd.C_below HC0.out (below_then HB.out HB.out.size HBr.out)) kk hk0 hlt
        cases e1
        have hlt0 := decide_eq_true hlt
        have hlt1 := eq_true hlt
        have hk01 := eq_true hk0
        have HRl := Aside0.mk (Kd.R_reads' (Kd.R_below HR.out HBr.out))
        cases b with
        | false =>
          have h0r : Aside0 (0 ≤ r) := ⟨by rcases HA.out with ⟨h, _⟩ | ⟨_, h⟩; cases h; exact h⟩
          clear hk2 hk1
          go_wp2
          go_roundg (gk - 1)
          case measure => have := HK.out; omega
          case rel =>
            have hK := HK.out
            exact ⟨false, kk + 1, rfl, (by first | rfl | rw [show wrap64 (kk + 1) = kk + 1 by unfold wrap64; omega]), ⟨by omega⟩, ⟨below_alloc HBr.out _⟩, ⟨.inr ⟨rfl, h0r.out⟩⟩⟩
        | true =>
          have h1 : idxO (fun x : S76 => (spec_pzFits.f k x.f0 x.f1 x.f2 l).bind fun t => some (!t)) (cs.drop kk.toNat) kk = some r := by rcases HA.out with ⟨_, h⟩ | ⟨h, _⟩; exact h; cases h
          rw [idxO_drop _ z76 cs kk hk0 hlt] at h1
          obtain ⟨t', ht', h1⟩ := Option.bind_eq_some_iff.1 h1
          obtain ⟨t, ht, e2⟩ := Option.bind_eq_some_iff.1 ht'
          obtain rfl := Option.some.inj e2
          have HT := Aside0.mk (show spec_pzFits.f k (rd_T76 cs kk).f0 (rd_T76 cs kk).f1 (rd_T76 cs kk).f2 l = some t from ht)
          have H1 := Aside0.mk h1
          clear h1 ht' ht e2 hk2 hk1
          go_wp2_with (first | ((try (refine gate_guard (by rfl) ?_; dsimp only)); go_at_call 146; refine (spec_pzFits.calls k (rd_T76 cs kk).f0 (rd_T76 cs kk).f1 (rd_T76 cs kk).f2 A c l t _ (Kd.C_alloc HRl.out.2.2 _) HRl.out.2.1 HT.out).mono ?_; rintro e w6 ⟨rfl, hb6⟩))
          go_roundg (gk - 1)
          case measure => have := HK.out; omega
          case rel =>
            have hK := HK.out
            refine ⟨t, kk + 1, (by first | rfl | simp), (by first | rfl | rw [show wrap64 (kk + 1) = kk + 1 by unfold wrap64; omega]), ⟨by omega⟩, ⟨below_step (below_alloc HBr.out _) hb6⟩, ⟨?_⟩⟩
            cases t with
            | true => exact .inl ⟨rfl, H1.out⟩
            | false => exact .inr ⟨rfl, by have e := Option.some.inj H1.out; omega⟩
      · have hlt0 := decide_eq_false hlt
        have hlt1 := eq_false hlt
        have hl4 : ((l.length : Int) == 4) = true := by simp; omega
        have HO1 := Aside0.mk (blk_below HO.out HBr.out)
        have HS1 := Aside0.mk (Kd.S_below HS.out HBr.out)
        have HRR := Aside0.mk (Kd.R_below HR.out HBr.out)
        have HB1 := Aside0.mk (below_then HB.out HB.out.size HBr.out)
        have hcO : wr.cell? ⟨gO, 0, none⟩ = some v := (blk_cell HO1.out 0).trans rfl
        clear hk2
        cases b with
        | true =>
          have hrm : r = -1 := by
            rcases HA.out with ⟨_, h⟩ | ⟨h, _⟩
            · rw [List.drop_of_length_le (by omega), idxO] at h; exact (Option.some.inj h).symm
            · cases h
          have HFT : Aside0 (fitS k cs l = true) := ⟨by rw [HF.out, hrm]; rfl⟩
          clear hrm
          go_wp2_with ((with_reducible refine gate_builtin (b := .append) (xs := #[.tmp 28, .tmp 30]) rfl ?_); at_builtin; refine Aside0.out ?_)
          refine Aside0.mk ?_
          refine Kd.S_append (Kd.slice 3 (Kd.int .i64)) (w0 := w0) w0.heap.size rfl (.tmp 28) (.tmp 30) 38 26 (.slice none 0 0) 24 rfl Try.underlying38 info26 rfl (by decide) (by omega) v xs l [.slice A l.length c] (fun _ => True) (fun k => some k = (Value.slice A l.length c).ownBlock) rfl (by first | (go_simp; done) | (go_simp; rfl)) ?aP ?aK ?aF ?aO ?aB ?aS ?aL ?_
          (case aP => exact Kd.M_row (Kd.R_mono (Kd.R_tight rfl HRR.out) (fun _ h_ => h_)))
          (case aK => intro k hk; refine ⟨trivial, fun e => ?_⟩; obtain ⟨cs1, h1⟩ := Kd.R_typed HRR.out k hk.symm; obtain ⟨cs2, h2⟩ := Kd.S_typed HS1.out k e.symm; rw [h1] at h2; cases h2)
          (case aF => exact fun _ _ => trivial)
          (case aO => exact (Kd.S_mono HS1.out (fun k hk => ⟨trivial, hk⟩)))
          (case aB => exact HB1.out)
          (case aS => exact HB1.out.size)
          (case aL => have := HL.out; simp [hidL, HFT.out] at this; omega)
          intro v1 w1 ho hb hg hat
          obtain ⟨A1, c1, rfl⟩ := Kd.S_slice ho
          generalize hn1 : (xs ++ [l]).length = n1 at *
          have hne := Kd.S_ne HS1.out HO1.out (by decide)
          have hOg := blk_grown HO1.out hg hne
          have hcO1 : w1.cell? ⟨gO, 0, none⟩ = some v := (blk_cell hOg 0).trans rfl
          have hfO1 := blk_frozen hOg 0
          have HO2 := Aside0.mk (blk_put hOg 0 (.slice A1 n1 c1) (cs' := #[.slice A1 n1 c1]) rfl)
          have HS2 := Aside0.mk (Kd.S_set ho hOg (by decide) 0 (.slice A1 n1 c1))
          have HK2 := Aside0.mk (Kept.setCell (p := ⟨gO, 0, none⟩) (Kept.of_grown hg (Kept.of_below HBr.out (fun k => k = gO ∨ some k = v.ownBlock)) (fun k e => .inl (.inr e.symm))) (.inl (.inl rfl)) (.slice A1 n1 c1))
          have HB2 := Aside0.mk (Below.setCell hb (p := ⟨gO, 0, none⟩) hbO (.slice A1 n1 c1))
          have HT2 : Aside0 (∀ k, (Value.slice A1 n1 c1).ownBlock = some k → v.ownBlock = some k ∨ w.heap.size ≤ k) := ⟨fun k e => by
            rcases hat with h | ⟨b, h, hb⟩
            · exact .inl (h ▸ e)
            · rw [h] at e; cases e; exact .inr (Nat.le_trans HBr.out.size hb)⟩
          clear hb ho hg hat hcO hOg HA HF HO1 HS1 HRR HB1
          go_wp2
          refine bodyPost_ret (results_none rfl _ _ _) rfl ?_
          exact ⟨rfl, _, HO2.out, by rw [show (hidL 0 l (fromOf l)).filter (fitS k cs) = [l] from by show [l].filter _ = _; rw [List.filter_cons, HFT.out]; rfl]; exact HS2.out, HK2.out, HT2.out, HB2.out⟩
        | false =>
          have h0r : 0 ≤ r := by rcases HA.out with ⟨h, _⟩ | ⟨_, h⟩; cases h; exact h
          have HFT : Aside0 (fitS k cs l = false) := ⟨by rw [HF.out, decide_eq_true h0r]; rfl⟩
          clear h0r
          have HO2 := HO1
          have HS2 := Aside0.mk (Kd.S_mono (ok' := fun _ => True) HS1.out (fun _ _ => trivial))
          have HK2 := Aside0.mk (Kept.of_below HBr.out (fun k => k = gO ∨ some k = v.ownBlock))
          have HB2 := HB1
          have HT2 : Aside0 (∀ k, v.ownBlock = some k → v.ownBlock = some k ∨ w.heap.size ≤ k) := ⟨fun k e => .inl e⟩
          clear hcO HA HF HO1 HS1 HRR HB1
          go_wp2
          refine bodyPost_ret (results_none rfl _ _ _) rfl ?_
          exact ⟨rfl, _, HO2.out, by rw [show (hidL 0 l (fromOf l)).filter (fitS k cs) = [] from by show [l].filter _ = _; rw [List.filter_cons, HFT.out]; rfl]; exact (by rw [List.append_nil]; exact HS2.out), HK2.out, HT2.out, HB2.out⟩
  | succ d ih =>
    intro A c l v xs w hl hsome hp1 hp6 hlen hO hB hS hR
    have HO := Aside0.mk hO
    have HB := Aside0.mk hB
    have HS := Aside0.mk hS
    have HR := Aside0.mk hR
    have HL := Aside0.mk hlen
    have IH := Aside0.mk ih
    have HSO := Aside0.mk hsome
    have HC0 := Aside0.mk hCc
    obtain ⟨r, hr⟩ := Option.isSome_iff_exists.1 (hsome l (by simp [hidL]))
    have HR0 := Aside0.mk hr
    have hfit : fitS k cs l = !(decide (0 ≤ r)) := by unfold fitS; rw [hr]; rfl
    have HF := Aside0.mk hfit
    have hbig : cs.length ≤ 9223372036854775807 := hCc.2.1
    clear hO hB hS hR hlen ih hsome hr hfit hCc
    go_enter Try.func107, Try.ntmps107
    go_wp2
    go_loopg [6, 13] cs.length (fun gg s6 s13 wr => ∃ (b : Bool) (kk : Int), s6 = .bool b ∧ s13 = .int .i64 kk ∧ Aside0 (0 ≤ kk ∧ kk ≤ cs.length ∧ cs.length - kk ≤ gg) ∧ Aside0 (Below w.heap.size w wr) ∧ Aside0 (b = true ∧ idxO (fun x : S76 => (spec_pzFits.f k x.f0 x.f1 x.f2 l).bind fun t => some (!t)) (cs.drop kk.toNat) kk = some r ∨ b = false ∧ 0 ≤ r))
    case atStart => exact ⟨true, 0, by simp, by simp, ⟨by omega⟩, ⟨Below.refl _ w⟩, ⟨.inl ⟨rfl, HR0.out⟩⟩⟩
    case round =>
      obtain ⟨b, kk, rfl, rfl, HK, HBr, HA⟩ := hrel
      have ⟨hk0, hk1, hk2⟩ := HK.out
      by_cases hlt : kk < (cs.length : Int)
      · obtain ⟨ad, e1, hx0, hx1, hx2⟩ := at_T76 (Kd.C_below HC0.out (below_then HB.out HB.out.size HBr.out)) kk hk0 hlt
        cases e1
        have hlt0 := decide_eq_true hlt
        have hlt1 := eq_true hlt
        have hk01 := eq_true hk0
        have HRl := Aside0.mk (Kd.R_reads' (Kd.R_below HR.out HBr.out))
        cases b with
        | false =>
          have h0r : Aside0 (0 ≤ r) := ⟨by rcases HA.out with ⟨h, _⟩ | ⟨_, h⟩; cases h; exact h⟩
          clear hk2 hk1
          go_wp2
          go_roundg (gk - 1)
          case measure => have := HK.out; omega
          case rel =>
            have hK := HK.out
            exact ⟨false, kk + 1, rfl, (by first | rfl | rw [show wrap64 (kk + 1) = kk + 1 by unfold wrap64; omega]), ⟨by omega⟩, ⟨below_alloc HBr.out _⟩, ⟨.inr ⟨rfl, h0r.out⟩⟩⟩
        | true =>
          have h1 : idxO (fun x : S76 => (spec_pzFits.f k x.f0 x.f1 x.f2 l).bind fun t => some (!t)) (cs.drop kk.toNat) kk = some r := by rcases HA.out with ⟨_, h⟩ | ⟨h, _⟩; exact h; cases h
          rw [idxO_drop _ z76 cs kk hk0 hlt] at h1
          obtain ⟨t', ht', h1⟩ := Option.bind_eq_some_iff.1 h1
          obtain ⟨t, ht, e2⟩ := Option.bind_eq_some_iff.1 ht'
          obtain rfl := Option.some.inj e2
          have HT := Aside0.mk (show spec_pzFits.f k (rd_T76 cs kk).f0 (rd_T76 cs kk).f1 (rd_T76 cs kk).f2 l = some t from ht)
          have H1 := Aside0.mk h1
          clear h1 ht' ht e2 hk2 hk1
          go_wp2_with (first | ((try (refine gate_guard (by rfl) ?_; dsimp only)); go_at_call 146; refine (spec_pzFits.calls k (rd_T76 cs kk).f0 (rd_T76 cs kk).f1 (rd_T76 cs kk).f2 A c l t _ (Kd.C_alloc HRl.out.2.2 _) HRl.out.2.1 HT.out).mono ?_; rintro e w6 ⟨rfl, hb6⟩))
          go_roundg (gk - 1)
          case measure => have := HK.out; omega
          case rel =>
            have hK := HK.out
            refine ⟨t, kk + 1, (by first | rfl | simp), (by first | rfl | rw [show wrap64 (kk + 1) = kk + 1 by unfold wrap64; omega]), ⟨by omega⟩, ⟨below_step (below_alloc HBr.out _) hb6⟩, ⟨?_⟩⟩
            cases t with
            | true => exact .inl ⟨rfl, H1.out⟩
            | false => exact .inr ⟨rfl, by have e := Option.some.inj H1.out; omega⟩
      · have hlt0 := decide_eq_false hlt
        have hlt1 := eq_false hlt
        have hl4 : ((l.length : Int) == 4) = false := by simp; omega
        have HO1 := Aside0.mk (blk_below HO.out HBr.out)
        have HS1 := Aside0.mk (Kd.S_below HS.out HBr.out)
        have HRR := Aside0.mk (Kd.R_below HR.out HBr.out)
        have HB1 := Aside0.mk (below_then HB.out HB.out.size HBr.out)
        have hcO : wr.cell? ⟨gO, 0, none⟩ = some v := (blk_cell HO1.out 0).trans rfl
        clear hk2
        cases b with
        | true =>
          have hrm : r = -1 := by
            rcases HA.out with ⟨_, h⟩ | ⟨h, _⟩
            · rw [List.drop_of_length_le (by omega), idxO] at h; exact (Option.some.inj h).symm
            · cases h
          have HFT : Aside0 (fitS k cs l = true) := ⟨by rw [HF.out, hrm]; rfl⟩
          clear hrm
          go_wp2_with ((with_reducible refine gate_builtin (b := .append) (xs := #[.tmp 28, .tmp 30]) rfl ?_); at_builtin; refine Aside0.out ?_)
          refine Aside0.mk ?_
          refine Kd.S_append (Kd.slice 3 (Kd.int .i64)) (w0 := w0) w0.heap.size rfl (.tmp 28) (.tmp 30) 38 26 (.slice none 0 0) 24 rfl Try.underlying38 info26 rfl (by decide) (by omega) v xs l [.slice A l.length c] (fun _ => True) (fun k => some k = (Value.slice A l.length c).ownBlock) rfl (by first | (go_simp; done) | (go_simp; rfl)) ?aP ?aK ?aF ?aO ?aB ?aS ?aL ?_
          (case aP => exact Kd.M_row (Kd.R_mono (Kd.R_tight rfl HRR.out) (fun _ h_ => h_)))
          (case aK => intro k hk; refine ⟨trivial, fun e => ?_⟩; obtain ⟨cs1, h1⟩ := Kd.R_typed HRR.out k hk.symm; obtain ⟨cs2, h2⟩ := Kd.S_typed HS1.out k e.symm; rw [h1] at h2; cases h2)
          (case aF => exact fun _ _ => trivial)
          (case aO => exact (Kd.S_mono HS1.out (fun k hk => ⟨trivial, hk⟩)))
          (case aB => exact HB1.out)
          (case aS => exact HB1.out.size)
          (case aL => have := HL.out; simp [hidL, HFT.out] at this; omega)
          intro v1 w1 ho hb hg hat
          obtain ⟨A1, c1, rfl⟩ := Kd.S_slice ho
          generalize hn1 : (xs ++ [l]).length = n1 at *
          have hne := Kd.S_ne HS1.out HO1.out (by decide)
          have hOg := blk_grown HO1.out hg hne
          have hcO1 : w1.cell? ⟨gO, 0, none⟩ = some v := (blk_cell hOg 0).trans rfl
          have hfO1 := blk_frozen hOg 0
          have HO2 := Aside0.mk (blk_put hOg 0 (.slice A1 n1 c1) (cs' := #[.slice A1 n1 c1]) rfl)
          have HS2 := Aside0.mk (Kd.S_set ho hOg (by decide) 0 (.slice A1 n1 c1))
          have HK2 := Aside0.mk (Kept.setCell (p := ⟨gO, 0, none⟩) (Kept.of_grown hg (Kept.of_below HBr.out (fun k => k = gO ∨ some k = v.ownBlock)) (fun k e => .inl (.inr e.symm))) (.inl (.inl rfl)) (.slice A1 n1 c1))
          have HB2 := Aside0.mk (Below.setCell hb (p := ⟨gO, 0, none⟩) hbO (.slice A1 n1 c1))
          have HT2 : Aside0 (∀ k, (Value.slice A1 n1 c1).ownBlock = some k → v.ownBlock = some k ∨ w.heap.size ≤ k) := ⟨fun k e => by
            rcases hat with h | ⟨b, h, hb⟩
            · exact .inl (h ▸ e)
            · rw [h] at e; cases e; exact .inr (Nat.le_trans HBr.out.size hb)⟩
          have HX2 : Aside0 ((xs ++ [l]) ++ (hidR d l (fromOf l)).filter (fitS k cs) = xs ++ (hidL (d + 1) l (fromOf l)).filter (fitS k cs)) := ⟨by
            show _ = xs ++ (l :: hidR d l (fromOf l)).filter (fitS k cs)
            rw [List.filter_cons, HFT.out, if_pos rfl, List.append_assoc]; rfl⟩
          have HSO2 : Aside0 (∀ l' ∈ hidR d l (fromOf l), (badS k cs l').isSome = true) := ⟨fun l' h' => HSO.out l' (List.mem_cons_of_mem _ h')⟩
          have HRr := Aside0.mk (Kd.R_reads' (Kd.R_kept (Kd.R_tight rfl HR.out) HK2.out (fun k hk h => by
            obtain ⟨cs1, h1⟩ := Kd.R_typed HR.out k hk.symm
            rcases h with rfl | h
            · rw [HO.out] at h1; cases h1
            · obtain ⟨cs2, h2⟩ := Kd.S_typed HS.out k h.symm; rw [h1] at h2; cases h2)))
          clear hb ho hg hat hcO hOg HA HF HFT HO1 HS1 HRR HB1
          by_cases hpos : 0 < (l.length : Int)
          · obtain ⟨ad, e1, hx⟩ := Kd.at_int HRr.out.2.2 ((l.length : Int) - 1) (by omega) (by omega)
            cases e1
            have HNIL := Aside0.mk (rfl : fromOf l = fromOf l)
            rw [fromOf_rd l (by omega), show ((l.length : Int) - 1).toNat = l.length - 1 by omega] at hx
            have hp0 := decide_eq_true hpos
            have hp1' := eq_true hpos
            go_wp2
            clear hp0 hp1' hx hpos
            go_loopg [10] 6 (fun gg v10 w' => ∃ (q : Int) (v' : Value) (xs' : List (List Int)), v10 = .int .i64 q ∧ Aside0 (1 ≤ q ∧ q ≤ 7 ∧ (7 - q).toNat ≤ gg) ∧ Aside0 (w'.heap[gO]? = some (.cells #[v'] 38 (0, 0))) ∧ Aside0 (Kd.S (Kd.slice 3 (Kd.int .i64)) 26 w' w0.heap.size (fun _ => True) v' xs') ∧ Aside0 (Kept w w' (fun k => k = gO ∨ some k = v.ownBlock)) ∧ Aside0 (∀ k, v'.ownBlock = some k → v.ownBlock = some k ∨ w.heap.size ≤ k) ∧ Aside0 (Below w0.heap.size w0 w') ∧ Aside0 (xs' ++ (hidR d l q).filter (fitS k cs) = xs ++ (hidL (d + 1) l (fromOf l)).filter (fitS k cs)) ∧ Aside0 (∀ l' ∈ hidR d l q, (badS k cs l').isSome = true))
            case atStart => exact ⟨fromOf l, _, (xs ++ [l]), (by first | rfl | (rw [HNIL.out])), ⟨hp1, by omega, by omega⟩, HO2, HS2, HK2, HT2, HB2, HX2, HSO2⟩
            case round =>
              clear HO2 HS2 HK2 HT2 HB2 HX2 HSO2
              obtain ⟨q, v', xs', rfl, HQ, HO', HS', HK', HT', HB', HX, HSO'⟩ := hrel
              have ⟨hq1, hq7, hqg⟩ := HQ.out
              by_cases hq : q ≤ 6
              · have hq0 := decide_eq_true hq
                have HRw := Aside0.mk (Kd.R_reads' (Kd.R_kept (Kd.R_tight rfl HR.out) HK'.out (fun k hk h => by
                  obtain ⟨cs1, h1⟩ := Kd.R_typed HR.out k hk.symm
                  rcases h with rfl | h
                  · rw [HO.out] at h1; cases h1
                  · obtain ⟨cs2, h2⟩ := Kd.S_typed HS.out k h.symm; rw [h1] at h2; cases h2)))
                have hl4 : l.length ≤ 4 := by omega
                have hle4 : (l ++ [q]).length + d = 4 := by simp; omega
                have hX : (xs' ++ (hidL d (l ++ [q]) q).filter (fitS k cs)) ++ (hidR d l (q + 1)).filter (fitS k cs) = xs ++ (hidL (d + 1) l (fromOf l)).filter (fitS k cs) := by have e := HX.out; rw [hidR_step d l q hq, List.filter_append] at e; rw [List.append_assoc]; exact e
                have hXl : (xs' ++ (hidL d (l ++ [q]) q).filter (fitS k cs)).length ≤ 1000000 := by have e := HL.out; rw [← hX, List.length_append] at e; omega
                have hsn := fromOf_snoc l q
                have hs1 : ∀ l' ∈ hidL d (l ++ [q]) (fromOf (l ++ [q])), (badS k cs l').isSome = true := by rw [hsn]; intro l' h'; exact HSO'.out l' (by rw [hidR_step d l q hq]; exact List.mem_append_left _ h')
                have hs2 : ∀ l' ∈ hidR d l (q + 1), (badS k cs l').isSome = true := fun l' h' => HSO'.out l' (by rw [hidR_step d l q hq]; exact List.mem_append_right _ h')
                have HX' := Aside0.mk hX
                have HXl := Aside0.mk hXl
                have HLE := Aside0.mk hle4
                have HSN := Aside0.mk hsn
                have HS1' := Aside0.mk hs1
                have HS2' := Aside0.mk hs2
                clear hX hXl hle4 HX hsn hs1 hs2
                go_wp2_with (first
                  | (go_at_call 72; refine (spec_l1Own.calls _ c l l _ HRw.out.2.2 HRw.out.2.1 (by unfold spec_l1Own.f; show (if ([] : List Int).length + l.length < 17592186044416 then some ([] ++ l) else none) = some l; rw [if_pos (by simp; omega), List.nil_append])).mono ?_; rintro e w3 ⟨v3, rfl, ho3, hb3⟩; have HB3 := Aside0.mk hb3; have HO3 := Aside0.mk ho3; clear ho3 hb3)
                  | ((with_reducible refine gate_builtin (b := .append) (xs := #[.tmp 52, .tmp 54]) rfl ?_); at_builtin; refine Kd.R_append_rows (Kd.int .i64) (w0 := wr) wr.heap.size rfl (.tmp 52) (.tmp 54) 26 3 (.int .i64 0) 8 rfl Try.underlying26 info3 rfl (by decide) (by omega) v3 l [q] _ _ _ (fun _ => True) (fun _ => False) rfl rfl ?aO ?aR (fun _ _ h => h) (fun _ h => h.elim) (fun _ _ => trivial) ?aB ?aS ?aL ?_; (case aO => exact Kd.R_alloc HO3.out _); (case aR => exact C_one ((blk_cell (blk_new w3 _) 0).trans rfl)); (case aB => exact below_alloc HB3.out _); (case aS => have := HB3.out.size; first | omega | (simp; omega)); (case aL => omega); intro v4 w4 ho4 hb4 hg4 hat4; obtain ⟨A4, c4, rfl⟩ := Kd.R_slice ho4; have HO4 := Aside0.mk ho4; have HB4 := Aside0.mk hb4; clear ho4 hb4 hg4 hat4; have ih4 := IH.out A4 c4 (l ++ [q]) v' xs' w4 HLE.out HS1'.out (by rw [HSN.out]; omega) (by rw [HSN.out]; omega) (by rw [HSN.out]; exact HXl.out) (blk_below HO'.out HB4.out) (below_then HB'.out HB'.out.size HB4.out) (Kd.S_mono (Kd.S_elder' HS'.out (Kd.R_base HO4.out) HB4.out) (fun k hk => hk.2)) (Kd.R_lower HO4.out HB'.out.size); rw [HSN.out, show (l ++ [q]).length = l.length + 1 from by simp] at ih4; have IHQ := Aside0.mk ih4; clear ih4)
                  | (go_at_call 107; refine IHQ.out.mono ?_; rintro e w5 ⟨rfl, v5, hO5, hS5, hK5, hT5, hB5⟩; have HO5 := Aside0.mk hO5; have HS5 := Aside0.mk hS5; have HK5 := Aside0.mk hK5; have HT5 := Aside0.mk hT5; have HB5 := Aside0.mk hB5; clear hO5 hS5 hK5 hT5 hB5))
                go_roundg (gk - 1)
                case measure => have := HQ.out; omega
                case rel =>
                  refine ⟨q + 1, v5, _, (by first | rfl | rw [show wrap64 (q + 1) = q + 1 by unfold wrap64; omega]), ⟨by omega, by omega, by omega⟩, HO5, HS5, ⟨?_⟩, ⟨?_⟩, HB5, HX', HS2'⟩
                  · exact (HK'.out.below HB4.out).then_ HK5.out (fun k hk => by
                      rcases hk with hk | hk
                      · exact .inl (.inl hk)
                      · rcases HT'.out k hk.symm with h | h
                        · exact .inl (.inr h.symm)
                        · exact .inr h)
                  · intro k hk
                    rcases HT5.out k hk with h | h
                    · exact HT'.out k h
                    · exact .inr (Nat.le_trans (Nat.le_trans HK'.out.1 HB4.out.size) h)
              · have hq0 := decide_eq_false hq
                go_wp2
                refine bodyPost_end (results_none rfl _ _ _) rfl ⟨rfl, v', HO'.out, ?_, HK'.out, HT'.out, HB'.out⟩
                have e := HX.out
                rw [hidR_end _ _ _ (by omega), List.filter_nil, List.append_nil] at e
                rw [← e]; exact HS'.out
          · have hp0 := decide_eq_false hpos
            have hp1' := eq_false hpos
            have HNIL : Aside0 (fromOf l = 1) := ⟨by have e : l = [] := List.length_eq_zero_iff.1 (by omega); rw [e]; rfl⟩
            go_wp2
            clear hp0 hp1' hpos
            go_loopg [10] 6 (fun gg v10 w' => ∃ (q : Int) (v' : Value) (xs' : List (List Int)), v10 = .int .i64 q ∧ Aside0 (1 ≤ q ∧ q ≤ 7 ∧ (7 - q).toNat ≤ gg) ∧ Aside0 (w'.heap[gO]? = some (.cells #[v'] 38 (0, 0))) ∧ Aside0 (Kd.S (Kd.slice 3 (Kd.int .i64)) 26 w' w0.heap.size (fun _ => True) v' xs') ∧ Aside0 (Kept w w' (fun k => k = gO ∨ some k = v.ownBlock)) ∧ Aside0 (∀ k, v'.ownBlock = some k → v.ownBlock = some k ∨ w.heap.size ≤ k) ∧ Aside0 (Below w0.heap.size w0 w') ∧ Aside0 (xs' ++ (hidR d l q).filter (fitS k cs) = xs ++ (hidL (d + 1) l (fromOf l)).filter (fitS k cs)) ∧ Aside0 (∀ l' ∈ hidR d l q, (badS k cs l').isSome = true))
            case atStart => exact ⟨fromOf l, _, (xs ++ [l]), (by first | rfl | (rw [HNIL.out])), ⟨hp1, by omega, by omega⟩, HO2, HS2, HK2, HT2, HB2, HX2, HSO2⟩
            case round =>
              clear HO2 HS2 HK2 HT2 HB2 HX2 HSO2
              obtain ⟨q, v', xs', rfl, HQ, HO', HS', HK', HT', HB', HX, HSO'⟩ := hrel
              have ⟨hq1, hq7, hqg⟩ := HQ.out
              by_cases hq : q ≤ 6
              · have hq0 := decide_eq_true hq
                have HRw := Aside0.mk (Kd.R_reads' (Kd.R_kept (Kd.R_tight rfl HR.out) HK'.out (fun k hk h => by
                  obtain ⟨cs1, h1⟩ := Kd.R_typed HR.out k hk.symm
                  rcases h with rfl | h
                  · rw [HO.out] at h1; cases h1
                  · obtain ⟨cs2, h2⟩ := Kd.S_typed HS.out k h.symm; rw [h1] at h2; cases h2)))
                have hl4 : l.length ≤ 4 := by omega
                have hle4 : (l ++ [q]).length + d = 4 := by simp; omega
                have hX : (xs' ++ (hidL d (l ++ [q]) q).filter (fitS k cs)) ++ (hidR d l (q + 1)).filter (fitS k cs) = xs ++ (hidL (d + 1) l (fromOf l)).filter (fitS k cs) := by have e := HX.out; rw [hidR_step d l q hq, List.filter_append] at e; rw [List.append_assoc]; exact e
                have hXl : (xs' ++ (hidL d (l ++ [q]) q).filter (fitS k cs)).length ≤ 1000000 := by have e := HL.out; rw [← hX, List.length_append] at e; omega
                have hsn := fromOf_snoc l q
                have hs1 : ∀ l' ∈ hidL d (l ++ [q]) (fromOf (l ++ [q])), (badS k cs l').isSome = true := by rw [hsn]; intro l' h'; exact HSO'.out l' (by rw [hidR_step d l q hq]; exact List.mem_append_left _ h')
                have hs2 : ∀ l' ∈ hidR d l (q + 1), (badS k cs l').isSome = true := fun l' h' => HSO'.out l' (by rw [hidR_step d l q hq]; exact List.mem_append_right _ h')
                have HX' := Aside0.mk hX
                have HXl := Aside0.mk hXl
                have HLE := Aside0.mk hle4
                have HSN := Aside0.mk hsn
                have HS1' := Aside0.mk hs1
                have HS2' := Aside0.mk hs2
                clear hX hXl hle4 HX hsn hs1 hs2
                go_wp2_with (first
                  | (go_at_call 72; refine (spec_l1Own.calls _ c l l _ HRw.out.2.2 HRw.out.2.1 (by unfold spec_l1Own.f; show (if ([] : List Int).length + l.length < 17592186044416 then some ([] ++ l) else none) = some l; rw [if_pos (by simp; omega), List.nil_append])).mono ?_; rintro e w3 ⟨v3, rfl, ho3, hb3⟩; have HB3 := Aside0.mk hb3; have HO3 := Aside0.mk ho3; clear ho3 hb3)
                  | ((with_reducible refine gate_builtin (b := .append) (xs := #[.tmp 52, .tmp 54]) rfl ?_); at_builtin; refine Kd.R_append_rows (Kd.int .i64) (w0 := wr) wr.heap.size rfl (.tmp 52) (.tmp 54) 26 3 (.int .i64 0) 8 rfl Try.underlying26 info3 rfl (by decide) (by omega) v3 l [q] _ _ _ (fun _ => True) (fun _ => False) rfl rfl ?aO ?aR (fun _ _ h => h) (fun _ h => h.elim) (fun _ _ => trivial) ?aB ?aS ?aL ?_; (case aO => exact Kd.R_alloc HO3.out _); (case aR => exact C_one ((blk_cell (blk_new w3 _) 0).trans rfl)); (case aB => exact below_alloc HB3.out _); (case aS => have := HB3.out.size; first | omega | (simp; omega)); (case aL => omega); intro v4 w4 ho4 hb4 hg4 hat4; obtain ⟨A4, c4, rfl⟩ := Kd.R_slice ho4; have HO4 := Aside0.mk ho4; have HB4 := Aside0.mk hb4; clear ho4 hb4 hg4 hat4; have ih4 := IH.out A4 c4 (l ++ [q]) v' xs' w4 HLE.out HS1'.out (by rw [HSN.out]; omega) (by rw [HSN.out]; omega) (by rw [HSN.out]; exact HXl.out) (blk_below HO'.out HB4.out) (below_then HB'.out HB'.out.size HB4.out) (Kd.S_mono (Kd.S_elder' HS'.out (Kd.R_base HO4.out) HB4.out) (fun k hk => hk.2)) (Kd.R_lower HO4.out HB'.out.size); rw [HSN.out, show (l ++ [q]).length = l.length + 1 from by simp] at ih4; have IHQ := Aside0.mk ih4; clear ih4)
                  | (go_at_call 107; refine IHQ.out.mono ?_; rintro e w5 ⟨rfl, v5, hO5, hS5, hK5, hT5, hB5⟩; have HO5 := Aside0.mk hO5; have HS5 := Aside0.mk hS5; have HK5 := Aside0.mk hK5; have HT5 := Aside0.mk hT5; have HB5 := Aside0.mk hB5; clear hO5 hS5 hK5 hT5 hB5))
                go_roundg (gk - 1)
                case measure => have := HQ.out; omega
                case rel =>
                  refine ⟨q + 1, v5, _, (by first | rfl | rw [show wrap64 (q + 1) = q + 1 by unfold wrap64; omega]), ⟨by omega, by omega, by omega⟩, HO5, HS5, ⟨?_⟩, ⟨?_⟩, HB5, HX', HS2'⟩
                  · exact (HK'.out.below HB4.out).then_ HK5.out (fun k hk => by
                      rcases hk with hk | hk
                      · exact .inl (.inl hk)
                      · rcases HT'.out k hk.symm with h | h
                        · exact .inl (.inr h.symm)
                        · exact .inr h)
                  · intro k hk
                    rcases HT5.out k hk with h | h
                    · exact HT'.out k h
                    · exact .inr (Nat.le_trans (Nat.le_trans HK'.out.1 HB4.out.size) h)
              · have hq0 := decide_eq_false hq
                go_wp2
                refine bodyPost_end (results_none rfl _ _ _) rfl ⟨rfl, v', HO'.out, ?_, HK'.out, HT'.out, HB'.out⟩
                have e := HX.out
                rw [hidR_end _ _ _ (by omega), List.filter_nil, List.append_nil] at e
                rw [← e]; exact HS'.out
        | false =>
          have h0r : 0 ≤ r := by rcases HA.out with ⟨h, _⟩ | ⟨_, h⟩; cases h; exact h
          have HFT : Aside0 (fitS k cs l = false) := ⟨by rw [HF.out, decide_eq_true h0r]; rfl⟩
          clear h0r
          have HO2 := HO1
          have HS2 := Aside0.mk (Kd.S_mono (ok' := fun _ => True) HS1.out (fun _ _ => trivial))
          have HK2 := Aside0.mk (Kept.of_below HBr.out (fun k => k = gO ∨ some k = v.ownBlock))
          have HB2 := HB1
          have HT2 : Aside0 (∀ k, v.ownBlock = some k → v.ownBlock = some k ∨ w.heap.size ≤ k) := ⟨fun k e => .inl e⟩
          have HX2 : Aside0 (xs ++ (hidR d l (fromOf l)).filter (fitS k cs) = xs ++ (hidL (d + 1) l (fromOf l)).filter (fitS k cs)) := ⟨by
            show _ = xs ++ (l :: hidR d l (fromOf l)).filter (fitS k cs)
            rw [List.filter_cons, HFT.out, if_neg (by decide)]⟩
          have HSO2 : Aside0 (∀ l' ∈ hidR d l (fromOf l), (badS k cs l').isSome = true) := ⟨fun l' h' => HSO.out l' (List.mem_cons_of_mem _ h')⟩
          have HRr := Aside0.mk (Kd.R_reads' HRR.out)
          clear hcO HA HF HFT HO1 HS1 HRR HB1
          by_cases hpos : 0 < (l.length : Int)
          · obtain ⟨ad, e1, hx⟩ := Kd.at_int HRr.out.2.2 ((l.length : Int) - 1) (by omega) (by omega)
            cases e1
            have HNIL := Aside0.mk (rfl : fromOf l = fromOf l)
            rw [fromOf_rd l (by omega), show ((l.length : Int) - 1).toNat = l.length - 1 by omega] at hx
            have hp0 := decide_eq_true hpos
            have hp1' := eq_true hpos
            go_wp2
            clear hp0 hp1' hx hpos
            go_loopg [10] 6 (fun gg v10 w' => ∃ (q : Int) (v' : Value) (xs' : List (List Int)), v10 = .int .i64 q ∧ Aside0 (1 ≤ q ∧ q ≤ 7 ∧ (7 - q).toNat ≤ gg) ∧ Aside0 (w'.heap[gO]? = some (.cells #[v'] 38 (0, 0))) ∧ Aside0 (Kd.S (Kd.slice 3 (Kd.int .i64)) 26 w' w0.heap.size (fun _ => True) v' xs') ∧ Aside0 (Kept w w' (fun k => k = gO ∨ some k = v.ownBlock)) ∧ Aside0 (∀ k, v'.ownBlock = some k → v.ownBlock = some k ∨ w.heap.size ≤ k) ∧ Aside0 (Below w0.heap.size w0 w') ∧ Aside0 (xs' ++ (hidR d l q).filter (fitS k cs) = xs ++ (hidL (d + 1) l (fromOf l)).filter (fitS k cs)) ∧ Aside0 (∀ l' ∈ hidR d l q, (badS k cs l').isSome = true))
            case atStart => exact ⟨fromOf l, _, xs, (by first | rfl | (rw [HNIL.out])), ⟨hp1, by omega, by omega⟩, HO2, HS2, HK2, HT2, HB2, HX2, HSO2⟩
            case round =>
              clear HO2 HS2 HK2 HT2 HB2 HX2 HSO2
              obtain ⟨q, v', xs', rfl, HQ, HO', HS', HK', HT', HB', HX, HSO'⟩ := hrel
              have ⟨hq1, hq7, hqg⟩ := HQ.out
              by_cases hq : q ≤ 6
              · have hq0 := decide_eq_true hq
                have HRw := Aside0.mk (Kd.R_reads' (Kd.R_kept (Kd.R_tight rfl HR.out) HK'.out (fun k hk h => by
                  obtain ⟨cs1, h1⟩ := Kd.R_typed HR.out k hk.symm
                  rcases h with rfl | h
                  · rw [HO.out] at h1; cases h1
                  · obtain ⟨cs2, h2⟩ := Kd.S_typed HS.out k h.symm; rw [h1] at h2; cases h2)))
                have hl4 : l.length ≤ 4 := by omega
                have hle4 : (l ++ [q]).length + d = 4 := by simp; omega
                have hX : (xs' ++ (hidL d (l ++ [q]) q).filter (fitS k cs)) ++ (hidR d l (q + 1)).filter (fitS k cs) = xs ++ (hidL (d + 1) l (fromOf l)).filter (fitS k cs) := by have e := HX.out; rw [hidR_step d l q hq, List.filter_append] at e; rw [List.append_assoc]; exact e
                have hXl : (xs' ++ (hidL d (l ++ [q]) q).filter (fitS k cs)).length ≤ 1000000 := by have e := HL.out; rw [← hX, List.length_append] at e; omega
                have hsn := fromOf_snoc l q
                have hs1 : ∀ l' ∈ hidL d (l ++ [q]) (fromOf (l ++ [q])), (badS k cs l').isSome = true := by rw [hsn]; intro l' h'; exact HSO'.out l' (by rw [hidR_step d l q hq]; exact List.mem_append_left _ h')
                have hs2 : ∀ l' ∈ hidR d l (q + 1), (badS k cs l').isSome = true := fun l' h' => HSO'.out l' (by rw [hidR_step d l q hq]; exact List.mem_append_right _ h')
                have HX' := Aside0.mk hX
                have HXl := Aside0.mk hXl
                have HLE := Aside0.mk hle4
                have HSN := Aside0.mk hsn
                have HS1' := Aside0.mk hs1
                have HS2' := Aside0.mk hs2
                clear hX hXl hle4 HX hsn hs1 hs2
                go_wp2_with (first
                  | (go_at_call 72; refine (spec_l1Own.calls _ c l l _ HRw.out.2.2 HRw.out.2.1 (by unfold spec_l1Own.f; show (if ([] : List Int).length + l.length < 17592186044416 then some ([] ++ l) else none) = some l; rw [if_pos (by simp; omega), List.nil_append])).mono ?_; rintro e w3 ⟨v3, rfl, ho3, hb3⟩; have HB3 := Aside0.mk hb3; have HO3 := Aside0.mk ho3; clear ho3 hb3)
                  | ((with_reducible refine gate_builtin (b := .append) (xs := #[.tmp 52, .tmp 54]) rfl ?_); at_builtin; refine Kd.R_append_rows (Kd.int .i64) (w0 := wr) wr.heap.size rfl (.tmp 52) (.tmp 54) 26 3 (.int .i64 0) 8 rfl Try.underlying26 info3 rfl (by decide) (by omega) v3 l [q] _ _ _ (fun _ => True) (fun _ => False) rfl rfl ?aO ?aR (fun _ _ h => h) (fun _ h => h.elim) (fun _ _ => trivial) ?aB ?aS ?aL ?_; (case aO => exact Kd.R_alloc HO3.out _); (case aR => exact C_one ((blk_cell (blk_new w3 _) 0).trans rfl)); (case aB => exact below_alloc HB3.out _); (case aS => have := HB3.out.size; first | omega | (simp; omega)); (case aL => omega); intro v4 w4 ho4 hb4 hg4 hat4; obtain ⟨A4, c4, rfl⟩ := Kd.R_slice ho4; have HO4 := Aside0.mk ho4; have HB4 := Aside0.mk hb4; clear ho4 hb4 hg4 hat4; have ih4 := IH.out A4 c4 (l ++ [q]) v' xs' w4 HLE.out HS1'.out (by rw [HSN.out]; omega) (by rw [HSN.out]; omega) (by rw [HSN.out]; exact HXl.out) (blk_below HO'.out HB4.out) (below_then HB'.out HB'.out.size HB4.out) (Kd.S_mono (Kd.S_elder' HS'.out (Kd.R_base HO4.out) HB4.out) (fun k hk => hk.2)) (Kd.R_lower HO4.out HB'.out.size); rw [HSN.out, show (l ++ [q]).length = l.length + 1 from by simp] at ih4; have IHQ := Aside0.mk ih4; clear ih4)
                  | (go_at_call 107; refine IHQ.out.mono ?_; rintro e w5 ⟨rfl, v5, hO5, hS5, hK5, hT5, hB5⟩; have HO5 := Aside0.mk hO5; have HS5 := Aside0.mk hS5; have HK5 := Aside0.mk hK5; have HT5 := Aside0.mk hT5; have HB5 := Aside0.mk hB5; clear hO5 hS5 hK5 hT5 hB5))
                go_roundg (gk - 1)
                case measure => have := HQ.out; omega
                case rel =>
                  refine ⟨q + 1, v5, _, (by first | rfl | rw [show wrap64 (q + 1) = q + 1 by unfold wrap64; omega]), ⟨by omega, by omega, by omega⟩, HO5, HS5, ⟨?_⟩, ⟨?_⟩, HB5, HX', HS2'⟩
                  · exact (HK'.out.below HB4.out).then_ HK5.out (fun k hk => by
                      rcases hk with hk | hk
                      · exact .inl (.inl hk)
                      · rcases HT'.out k hk.symm with h | h
                        · exact .inl (.inr h.symm)
                        · exact .inr h)
                  · intro k hk
                    rcases HT5.out k hk with h | h
                    · exact HT'.out k h
                    · exact .inr (Nat.le_trans (Nat.le_trans HK'.out.1 HB4.out.size) h)
              · have hq0 := decide_eq_false hq
                go_wp2
                refine bodyPost_end (results_none rfl _ _ _) rfl ⟨rfl, v', HO'.out, ?_, HK'.out, HT'.out, HB'.out⟩
                have e := HX.out
                rw [hidR_end _ _ _ (by omega), List.filter_nil, List.append_nil] at e
                rw [← e]; exact HS'.out
          · have hp0 := decide_eq_false hpos
            have hp1' := eq_false hpos
            have HNIL : Aside0 (fromOf l = 1) := ⟨by have e : l = [] := List.length_eq_zero_iff.1 (by omega); rw [e]; rfl⟩
            go_wp2
            clear hp0 hp1' hpos
            go_loopg [10] 6 (fun gg v10 w' => ∃ (q : Int) (v' : Value) (xs' : List (List Int)), v10 = .int .i64 q ∧ Aside0 (1 ≤ q ∧ q ≤ 7 ∧ (7 - q).toNat ≤ gg) ∧ Aside0 (w'.heap[gO]? = some (.cells #[v'] 38 (0, 0))) ∧ Aside0 (Kd.S (Kd.slice 3 (Kd.int .i64)) 26 w' w0.heap.size (fun _ => True) v' xs') ∧ Aside0 (Kept w w' (fun k => k = gO ∨ some k = v.ownBlock)) ∧ Aside0 (∀ k, v'.ownBlock = some k → v.ownBlock = some k ∨ w.heap.size ≤ k) ∧ Aside0 (Below w0.heap.size w0 w') ∧ Aside0 (xs' ++ (hidR d l q).filter (fitS k cs) = xs ++ (hidL (d + 1) l (fromOf l)).filter (fitS k cs)) ∧ Aside0 (∀ l' ∈ hidR d l q, (badS k cs l').isSome = true))
            case atStart => exact ⟨fromOf l, _, xs, (by first | rfl | (rw [HNIL.out])), ⟨hp1, by omega, by omega⟩, HO2, HS2, HK2, HT2, HB2, HX2, HSO2⟩
            case round =>
              clear HO2 HS2 HK2 HT2 HB2 HX2 HSO2
              obtain ⟨q, v', xs', rfl, HQ, HO', HS', HK', HT', HB', HX, HSO'⟩ := hrel
              have ⟨hq1, hq7, hqg⟩ := HQ.out
              by_cases hq : q ≤ 6
              · have hq0 := decide_eq_true hq
                have HRw := Aside0.mk (Kd.R_reads' (Kd.R_kept (Kd.R_tight rfl HR.out) HK'.out (fun k hk h => by
                  obtain ⟨cs1, h1⟩ := Kd.R_typed HR.out k hk.symm
                  rcases h with rfl | h
                  · rw [HO.out] at h1; cases h1
                  · obtain ⟨cs2, h2⟩ := Kd.S_typed HS.out k h.symm; rw [h1] at h2; cases h2)))
                have hl4 : l.length ≤ 4 := by omega
                have hle4 : (l ++ [q]).length + d = 4 := by simp; omega
                have hX : (xs' ++ (hidL d (l ++ [q]) q).filter (fitS k cs)) ++ (hidR d l (q + 1)).filter (fitS k cs) = xs ++ (hidL (d + 1) l (fromOf l)).filter (fitS k cs) := by have e := HX.out; rw [hidR_step d l q hq, List.filter_append] at e; rw [List.append_assoc]; exact e
                have hXl : (xs' ++ (hidL d (l ++ [q]) q).filter (fitS k cs)).length ≤ 1000000 := by have e := HL.out; rw [← hX, List.length_append] at e; omega
                have hsn := fromOf_snoc l q
                have hs1 : ∀ l' ∈ hidL d (l ++ [q]) (fromOf (l ++ [q])), (badS k cs l').isSome = true := by rw [hsn]; intro l' h'; exact HSO'.out l' (by rw [hidR_step d l q hq]; exact List.mem_append_left _ h')
                have hs2 : ∀ l' ∈ hidR d l (q + 1), (badS k cs l').isSome = true := fun l' h' => HSO'.out l' (by rw [hidR_step d l q hq]; exact List.mem_append_right _ h')
                have HX' := Aside0.mk hX
                have HXl := Aside0.mk hXl
                have HLE := Aside0.mk hle4
                have HSN := Aside0.mk hsn
                have HS1' := Aside0.mk hs1
                have HS2' := Aside0.mk hs2
                clear hX hXl hle4 HX hsn hs1 hs2
                go_wp2_with (first
                  | (go_at_call 72; refine (spec_l1Own.calls _ c l l _ HRw.out.2.2 HRw.out.2.1 (by unfold spec_l1Own.f; show (if ([] : List Int).length + l.length < 17592186044416 then some ([] ++ l) else none) = some l; rw [if_pos (by simp; omega), List.nil_append])).mono ?_; rintro e w3 ⟨v3, rfl, ho3, hb3⟩; have HB3 := Aside0.mk hb3; have HO3 := Aside0.mk ho3; clear ho3 hb3)
                  | ((with_reducible refine gate_builtin (b := .append) (xs := #[.tmp 52, .tmp 54]) rfl ?_); at_builtin; refine Kd.R_append_rows (Kd.int .i64) (w0 := wr) wr.heap.size rfl (.tmp 52) (.tmp 54) 26 3 (.int .i64 0) 8 rfl Try.underlying26 info3 rfl (by decide) (by omega) v3 l [q] _ _ _ (fun _ => True) (fun _ => False) rfl rfl ?aO ?aR (fun _ _ h => h) (fun _ h => h.elim) (fun _ _ => trivial) ?aB ?aS ?aL ?_; (case aO => exact Kd.R_alloc HO3.out _); (case aR => exact C_one ((blk_cell (blk_new w3 _) 0).trans rfl)); (case aB => exact below_alloc HB3.out _); (case aS => have := HB3.out.size; first | omega | (simp; omega)); (case aL => omega); intro v4 w4 ho4 hb4 hg4 hat4; obtain ⟨A4, c4, rfl⟩ := Kd.R_slice ho4; have HO4 := Aside0.mk ho4; have HB4 := Aside0.mk hb4; clear ho4 hb4 hg4 hat4; have ih4 := IH.out A4 c4 (l ++ [q]) v' xs' w4 HLE.out HS1'.out (by rw [HSN.out]; omega) (by rw [HSN.out]; omega) (by rw [HSN.out]; exact HXl.out) (blk_below HO'.out HB4.out) (below_then HB'.out HB'.out.size HB4.out) (Kd.S_mono (Kd.S_elder' HS'.out (Kd.R_base HO4.out) HB4.out) (fun k hk => hk.2)) (Kd.R_lower HO4.out HB'.out.size); rw [HSN.out, show (l ++ [q]).length = l.length + 1 from by simp] at ih4; have IHQ := Aside0.mk ih4; clear ih4)
                  | (go_at_call 107; refine IHQ.out.mono ?_; rintro e w5 ⟨rfl, v5, hO5, hS5, hK5, hT5, hB5⟩; have HO5 := Aside0.mk hO5; have HS5 := Aside0.mk hS5; have HK5 := Aside0.mk hK5; have HT5 := Aside0.mk hT5; have HB5 := Aside0.mk hB5; clear hO5 hS5 hK5 hT5 hB5))
                go_roundg (gk - 1)
                case measure => have := HQ.out; omega
                case rel =>
                  refine ⟨q + 1, v5, _, (by first | rfl | rw [show wrap64 (q + 1) = q + 1 by unfold wrap64; omega]), ⟨by omega, by omega, by omega⟩, HO5, HS5, ⟨?_⟩, ⟨?_⟩, HB5, HX', HS2'⟩
                  · exact (HK'.out.below HB4.out).then_ HK5.out (fun k hk => by
                      rcases hk with hk | hk
                      · exact .inl (.inl hk)
                      · rcases HT'.out k hk.symm with h | h
                        · exact .inl (.inr h.symm)
                        · exact .inr h)
                  · intro k hk
                    rcases HT5.out k hk with h | h
                    · exact HT'.out k h
                    · exact .inr (Nat.le_trans (Nat.le_trans HK'.out.1 HB4.out.size) h)
              · have hq0 := decide_eq_false hq
                go_wp2
                refine bodyPost_end (results_none rfl _ _ _) rfl ⟨rfl, v', HO'.out, ?_, HK'.out, HT'.out, HB'.out⟩
                have e := HX.out
                rw [hidR_end _ _ _ (by omega), List.filter_nil, List.append_nil] at e
                rw [← e]; exact HS'.out


/-! ### spec_pzAll: function 58 -/
-- GIVEN loop.example/g01305/spec.pzAll rounds=1
/-- Those of the hidden pieces that fit all clues, if that can be told of each. -/
def spec_pzAll.f (k : Nat) (cs : List S76) : Option (List (List Int)) := if (hidL 4 [] 1).all (fun l => (badS k cs l).isSome) = true then some ((hidL 4 [] 1).filter (fitS k cs)) else none
theorem spec_pzAll.mono : ∀ (cs : List S76) k, LeO (spec_pzAll.f k cs) (spec_pzAll.f (k + 1) cs) := by
  intro cs k r h
  unfold spec_pzAll.f at h ⊢
  by_cases c : (hidL 4 [] 1).all (fun l => (badS k cs l).isSome) = true
  · rw [if_pos c] at h
    have e : ∀ l ∈ hidL 4 [] 1, badS (k + 1) cs l = badS k cs l := by
      intro l hl
      have := List.all_eq_true.1 c l hl
      obtain ⟨r, hr⟩ := Option.isSome_iff_exists.1 this
      rw [hr, badS_mono k cs l r hr]
    rw [if_pos, ← h]
    · congr 1
      exact List.filter_congr (fun l hl => by unfold fitS; rw [e l hl])
    · exact List.all_eq_true.2 (fun l hl => by rw [e l hl]; exact List.all_eq_true.1 c l hl)
  · rw [if_neg c] at h; cases h

set_option maxHeartbeats 4000000 in
theorem spec_pzAll.calls (k : Nat) (A0 : Option Addr) (c0 : Nat) (l0 : List S76) (r : List (List Int)) (w : World) (hr0 : Kd.C k76 w A0 l0.length l0) (hc0 : l0.length ≤ c0) (h : spec_pzAll.f k l0 = some r) :
    Calls Try.prog 58 #[.slice A0 l0.length c0] w fun e w' => ∃ v0_ : Value, e = .returned (v0_) ∧ Kd.S (Kd.slice 3 (Kd.int .i64)) 26 w' w.heap.size (fun _ => True) v0_ r ∧ Below w.heap.size w w' := by
  unfold spec_pzAll.f at h
  by_cases c : (hidL 4 [] 1).all (fun l => (badS k l0 l).isSome) = true
  · rw [if_pos c] at h
    obtain rfl := Option.some.inj h
    have hL := pzLook_calls k A0 c0 l0 w.heap.size w (Nat.le_refl _) hr0 hc0 4 none 0 [] (.slice none 0 0) [] (w.alloc (.cells #[.slice none 0 0] 38)) rfl (fun l' hl => List.all_eq_true.1 c l' hl) (by decide) (by decide)
      (by
        refine Nat.le_trans (List.length_filter_le _ _) ?_
        exact (Nat.le_of_ble_eq_true (by kernel_rfl) : (hidL 4 [] 1).length ≤ 1000000))
      (blk_new w _) (below_alloc (Below.refl _ _) _) (Kd.S_nil _ _ _ _ _) (Kd.R_nil _ _ _ _ _)
    have HL := Aside0.mk hL
    clear hL h c hr0
    go_enter Try.func58, Try.ntmps58
    go_wp2_with (go_at_call 107; refine HL.out.mono ?_; rintro e w2 ⟨rfl, v2, hO2, hS2, hK2, hT2, hB2⟩; have hcO2 : w2.cell? ⟨w.heap.size, 0, none⟩ = some v2 := (blk_cell hO2 0).trans rfl)
    go_ret
    exact ⟨_, rfl, hS2, hB2⟩
  · rw [if_neg c] at h; cases h


/-! ### spec_Solutions: function 24 -/
def spec_Solutions.f (k : Nat) (l0_0 : List (S76)) : Option ((List (List Int)) × Bool) := (spec_pzGood.f k l0_0).bind fun t179 => (if t179 = true then ((spec_pzAll.f k l0_0).bind fun t180 => (some (t180, true))) else (some (([] : List (List Int)), false)))
theorem spec_Solutions.mono : ∀ a0 k, LeO (spec_Solutions.f k a0) (spec_Solutions.f (k + 1) a0) := by
  intro a0 k
  unfold spec_Solutions.f
  repeat' first
      | (with_reducible exact spec_pzAll.mono _ _)
      | (with_reducible exact spec_pzGood.mono _ _)
      | (with_reducible exact LeO.refl _)
      | (with_reducible exact LeO.none _)
      | (with_reducible refine LeO.ite ?_ ?_)
      | (with_reducible refine LeO.bind ?_ (fun _ => ?_))
      | exact spec_pzAll.mono _ _
      | exact spec_pzGood.mono _ _
      | exact LeO.none _
      | refine LeO.ite ?_ ?_
      | refine LeO.bind ?_ (fun _ => ?_)
set_option maxHeartbeats 8000000 in
set_option maxRecDepth 100000 in
theorem spec_Solutions.calls (k : Nat) (A0_0 : Option Addr) (c0_0 : Nat) (l0_0 : List (S76)) (r1 : List (List Int)) (r2 : Bool) (w : World) (hr0_0 : Kd.C k76 w A0_0 l0_0.length l0_0) (hc0_0 : l0_0.length ≤ c0_0) (h : spec_Solutions.f k l0_0 = some (r1, r2)) :
    Calls Try.prog 24 #[.agg #[.slice A0_0 l0_0.length c0_0]] w fun e w' => ∃ v0_ : Value, e = .returned (.tuple #[v0_, .bool r2]) ∧ Kd.S (Kd.slice 3 (Kd.int .i64)) 26 w' w.heap.size (fun _ => True) v0_ r1 ∧ Below w.heap.size w w' := by
  have hu31 := Try.underlying31
  have HR0_0 := Aside0.mk hr0_0
  have HC0_0 := Aside0.mk hc0_0
  clear hr0_0 hc0_0
  have HB := Aside0.mk (Below.refl w.heap.size w)
  have H : ((spec_pzGood.f k l0_0).bind fun t179 => (if t179 = true then ((spec_pzAll.f k l0_0).bind fun t180 => (some (t180, true))) else (some (([] : List (List Int)), false)))) = some (r1, r2) := h
  clear h
  replace H := Option.bind_eq_some_iff.mp H
  obtain ⟨t179, A20, H⟩ := H
  replace H : (if t179 = true then ((spec_pzAll.f k l0_0).bind fun t180 => (some (t180, true))) else (some (([] : List (List Int)), false))) = some (r1, r2) := H
  have A2 := Aside0.mk A20
  clear A20
  by_cases c3 : t179 = true
  · subst c3
    have H1 : ((spec_pzAll.f k l0_0).bind fun t180 => (some (t180, true))) = some (r1, r2) := by rw [if_pos rfl] at H; exact H
    clear H
    have H := H1
    clear H1
    replace H := Option.bind_eq_some_iff.mp H
    obtain ⟨t180, A40, H⟩ := H
    replace H : (some (t180, true)) = some (r1, r2) := H
    have A4 := Aside0.mk A40
    clear A40
    simp only [Option.some.injEq, Prod.mk.injEq] at H
    obtain ⟨rfl, rfl⟩ := H
    go_enter Try.func24, Try.ntmps24
    go_wp2_with (first | ((with_reducible refine gate_dst (N := 1) rfl ?_); refine box_event ?hg (N := 1) ?hd (cs := #[.slice A0_0 l0_0.length c0_0]) (t := 31) ?hr ?_; (case hd => rfl); (case hg => rfl); (case hr => first | (go_simp; done) | (go_simp; rfl)); intro gb178 hg w5 hbox hb; have n0_ := Aside0.mk (below_step (by repeat (first | (with_reducible first | exact HB.out | apply below_alloc | apply pw_below_drewN | apply below_drew1) | exact HB.out)) hb); have n1_ := Aside0.mk (hbox); have n2_ := Aside0.mk ((by rw [hg]; exact (below_size (by repeat (first | (with_reducible first | exact HB.out | apply below_alloc | apply pw_below_drewN | apply below_drew1) | exact HB.out))) : w.heap.size ≤ gb178)); have n3_ := Aside0.mk ((by rw [hg]; exact (below_size (by repeat (first | (with_reducible first | exact HB.out | apply below_alloc | apply pw_below_drewN | apply below_drew1) | exact HB.out))) : w.heap.size ≤ gb178)); clear HB; have HB := n0_; have BK178 := n1_; have GW178 := n2_; have GE178 := n3_; clear n0_ n1_ n2_ n3_; clear hb hbox hg; have hcz6_0 : w5.cell? ⟨gb178, 0, none⟩ = some (.slice A0_0 l0_0.length c0_0) := (blk_cell BK178.out 0).trans rfl; have hfz6_0 := blk_frozen BK178.out 0) | ((with_reducible refine gate_callee (f := 57) rfl ?_); refine goesL_ (some 5) rfl rfl Try.func57 (by kernel_rfl) rfl #[.agg #[.slice A0_0 l0_0.length c0_0]] rfl (by (try simp only [List.map_toArray, List.map_cons, List.map_nil]); first | done | rfl | (simp only [List.length_drop, List.length_take]; rfl)) ?_; (with_reducible refine (spec_pzGood.calls k _ _ l0_0 true _ ?side1 ?side2 A2.out).mono ?_); (case side1 => repeat (first | exact (Kd.C_below HR0_0.out HB.out) | (with_reducible refine Kd.C_alloc ?_ _) | (with_reducible refine Kd.C_drewN ?_ _) | (with_reducible refine Kd.C_drew ?_))); (case side2 => exact HC0_0.out); rintro e w7 ⟨rfl, hb⟩; refine ⟨_, rfl, ?_⟩; have n0_ := Aside0.mk (blk_below (g := gb178) (o := .cells #[.slice A0_0 l0_0.length c0_0] 31 (0, 0)) (by (with_reducible repeat (first | refine blk_drewN ?_ _ | refine blk_drew ?_ | refine blk_alloc ?_ _)); exact BK178.out) hb); have n1_ := Aside0.mk (below_step (by repeat (first | (with_reducible first | exact HB.out | apply below_alloc | apply pw_below_drewN | apply below_drew1 | refine below_set ?_ GE178.out) | exact HB.out)) hb); clear BK178; clear HB; have BK178 := n0_; have HB := n1_; clear n0_ n1_; (try clear hb); (try clear hb2); (try clear hk); (try clear hi); have hcz8_0 : w7.cell? ⟨gb178, 0, none⟩ = some (.slice A0_0 l0_0.length c0_0) := (blk_cell BK178.out 0).trans rfl; have hfz8_0 := blk_frozen BK178.out 0) | ((with_reducible refine gate_callee (f := 58) rfl ?_); refine goesL_ (some 9) rfl rfl Try.func58 (by kernel_rfl) rfl #[.slice A0_0 l0_0.length c0_0] rfl (by (try simp only [List.map_toArray, List.map_cons, List.map_nil]); first | done | rfl | (simp only [List.length_drop, List.length_take]; rfl)) ?_; (with_reducible refine (spec_pzAll.calls k _ _ l0_0 t180 _ ?side1 ?side2 A4.out).mono ?_); (case side1 => repeat (first | exact (Kd.C_below HR0_0.out HB.out) | (with_reducible refine Kd.C_alloc ?_ _) | (with_reducible refine Kd.C_drewN ?_ _) | (with_reducible refine Kd.C_drew ?_))); (case side2 => exact HC0_0.out); rintro e w9 ⟨v181, rfl, ho0, hb⟩; refine ⟨_, rfl, ?_⟩; have n0_ := Aside0.mk (Kd.S_lower ho0 (below_size (by repeat (first | (with_reducible first | exact HB.out | apply below_alloc | apply pw_below_drewN | apply below_drew1 | refine below_set ?_ GE178.out) | exact HB.out)))); have n1_ := Aside0.mk (blk_below (g := gb178) (o := .cells #[.slice A0_0 l0_0.length c0_0] 31 (0, 0)) (by (with_reducible repeat (first | refine blk_drewN ?_ _ | refine blk_drew ?_ | refine blk_alloc ?_ _)); exact BK178.out) hb); have n2_ := Aside0.mk (below_step (by repeat (first | (with_reducible first | exact HB.out | apply below_alloc | apply pw_below_drewN | apply below_drew1 | refine below_set ?_ GE178.out) | exact HB.out)) hb); clear BK178; clear HB; have HO182 := n0_; have BK178 := n1_; have HB := n2_; clear n0_ n1_ n2_; (try clear hb); (try clear hb2); (try clear hk); (try clear hi); (try clear ho0)))
    go_ret2
    exact ⟨_, by first | rfl | (simp [errW_none, errW_some] <;> rfl) | (simp [*, errW_none, errW_some] <;> rfl), by (with_reducible repeat (first | apply Kd.S_alloc | apply Kd.S_drewN | apply Kd.S_drew)); exact HO182.out, by repeat (first | (with_reducible first | exact HB.out | apply below_alloc | apply pw_below_drewN | apply below_drew1 | refine below_set ?_ GE178.out) | exact HB.out)⟩
  · replace c3 := Bool.eq_false_iff.mpr c3
    subst c3
    have H1 : (some (([] : List (List Int)), false)) = some (r1, r2) := by rw [if_neg (show ¬ (false = true) by decide)] at H; exact H
    clear H
    have H := H1
    clear H1
    simp only [Option.some.injEq, Prod.mk.injEq] at H
    obtain ⟨rfl, rfl⟩ := H
    go_enter Try.func24, Try.ntmps24
    go_wp2_with (first | ((with_reducible refine gate_dst (N := 1) rfl ?_); refine box_event ?hg (N := 1) ?hd (cs := #[.slice A0_0 l0_0.length c0_0]) (t := 31) ?hr ?_; (case hd => rfl); (case hg => rfl); (case hr => first | (go_simp; done) | (go_simp; rfl)); intro gb178 hg w10 hbox hb; have n0_ := Aside0.mk (below_step (by repeat (first | (with_reducible first | exact HB.out | apply below_alloc | apply pw_below_drewN | apply below_drew1) | exact HB.out)) hb); have n1_ := Aside0.mk (hbox); have n2_ := Aside0.mk ((by rw [hg]; exact (below_size (by repeat (first | (with_reducible first | exact HB.out | apply below_alloc | apply pw_below_drewN | apply below_drew1) | exact HB.out))) : w.heap.size ≤ gb178)); have n3_ := Aside0.mk ((by rw [hg]; exact (below_size (by repeat (first | (with_reducible first | exact HB.out | apply below_alloc | apply pw_below_drewN | apply below_drew1) | exact HB.out))) : w.heap.size ≤ gb178)); clear HB; have HB := n0_; have BK178 := n1_; have GW178 := n2_; have GE178 := n3_; clear n0_ n1_ n2_ n3_; clear hb hbox hg; have hcz11_0 : w10.cell? ⟨gb178, 0, none⟩ = some (.slice A0_0 l0_0.length c0_0) := (blk_cell BK178.out 0).trans rfl; have hfz11_0 := blk_frozen BK178.out 0) | ((with_reducible refine gate_callee (f := 57) rfl ?_); refine goesL_ (some 5) rfl rfl Try.func57 (by kernel_rfl) rfl #[.agg #[.slice A0_0 l0_0.length c0_0]] rfl (by (try simp only [List.map_toArray, List.map_cons, List.map_nil]); first | done | rfl | (simp only [List.length_drop, List.length_take]; rfl)) ?_; (with_reducible refine (spec_pzGood.calls k _ _ l0_0 false _ ?side1 ?side2 A2.out).mono ?_); (case side1 => repeat (first | exact (Kd.C_below HR0_0.out HB.out) | (with_reducible refine Kd.C_alloc ?_ _) | (with_reducible refine Kd.C_drewN ?_ _) | (with_reducible refine Kd.C_drew ?_))); (case side2 => exact HC0_0.out); rintro e w12 ⟨rfl, hb⟩; refine ⟨_, rfl, ?_⟩; have n0_ := Aside0.mk (blk_below (g := gb178) (o := .cells #[.slice A0_0 l0_0.length c0_0] 31 (0, 0)) (by (with_reducible repeat (first | refine blk_drewN ?_ _ | refine blk_drew ?_ | refine blk_alloc ?_ _)); exact BK178.out) hb); have n1_ := Aside0.mk (below_step (by repeat (first | (with_reducible first | exact HB.out | apply below_alloc | apply pw_below_drewN | apply below_drew1 | refine below_set ?_ GE178.out) | exact HB.out)) hb); clear BK178; clear HB; have BK178 := n0_; have HB := n1_; clear n0_ n1_; (try clear hb); (try clear hb2); (try clear hk); (try clear hi)))
    go_ret2
    exact ⟨_, by first | rfl | (simp [errW_none, errW_some] <;> rfl) | (simp [*, errW_none, errW_some] <;> rfl), by first | exact Kd.S_nil _ _ _ _ _ | exact Kd.N_nil _ _ _ _ _ | exact Kd.V_nil _ _ _ _ _ | exact Kd.Q_nil _ _ _ _ _ | exact Kd.R_nil _ _ _ _ _, by repeat (first | (with_reducible first | exact HB.out | apply below_alloc | apply pw_below_drewN | apply below_drew1 | refine below_set ?_ GE178.out) | exact HB.out)⟩

/-! ### impl_Clue_151: function 151 -/
-- GIVEN slices.IndexFunc[[]loop.example/g01305/impl.Clue,loop.example/g01305/impl.Clue] raw=1
-- USES idxO
/-- What a function value is asked for: at each element, in each later world, it returns what p tells. -/
def PredC (g : Nat) (lb : Array Value) (p : S76 → Option Bool) (w : World) : Prop :=
  ∀ (W : World) (x : S76) (r : Bool), Below w.heap.size w W → p x = some r → Calls Try.prog g (#[.agg #[.int .i64 x.f0, .int .i64 x.f1, .int .i64 x.f2]] ++ lb) W fun e w' => e = .returned (.bool r) ∧ Below w.heap.size w w'

set_option maxHeartbeats 2000000 in
theorem indexFunc_Clue (p : S76 → Option Bool) (r : Int) (g : Nat) (lb : Array Value) (eg : ∀ args w, (callFunc g args).run Try.prog w = .ok (.enter g args) w) (A0 : Option Addr) (c0 : Nat) (l0 : List S76) (w : World) (hr0 : Kd.C k76 w A0 l0.length l0) (hc0 : l0.length ≤ c0)
    (hp : PredC g lb p w) (h : idxO p l0 0 = some r) :
    Calls Try.prog 151 #[.slice A0 l0.length c0, .func (.func g) #[] lb] w fun e w' => e = .returned (.int .i64 r) ∧ Below w.heap.size w w' := by
  have HR0 := Aside0.mk hr0
  have HP := Aside0.mk hp
  have H0 := Aside0.mk h
  have hbig : l0.length ≤ 9223372036854775807 := hr0.2.1
  clear hr0 hc0 hp h
  go_enter Try.func151, Try.ntmps151
  go_wp2
  go_loopg [5, 8] l0.length (fun gg _ s8 wr => ∃ kk : Int, s8 = .int .i64 kk ∧ Aside0 (0 ≤ kk ∧ kk ≤ l0.length ∧ l0.length - kk ≤ gg) ∧ Aside0 (Below w.heap.size w wr) ∧ Aside0 (idxO p (l0.drop kk.toNat) kk = some r))
  case atStart => exact ⟨0, by simp, ⟨by omega⟩, ⟨Below.refl _ w⟩, H0⟩
  case round =>
    obtain ⟨kk, rfl, HK, HB, HA⟩ := hrel
    have ⟨hk0, hk1, hk2⟩ := HK.out
    by_cases hlt : kk < (l0.length : Int)
    · have H := HA.out
      rw [idxO_drop p z76 l0 kk hk0 hlt] at H
      obtain ⟨t, ht, H⟩ := Option.bind_eq_some_iff.1 H
      have hcall := HP.out wr (rd_T76 l0 kk) t HB.out ht
      obtain ⟨ad, e1, hx0, hx1, hx2⟩ := at_T76 (Kd.C_below HR0.out HB.out) kk hk0 hlt
      cases e1
      have hlt0 := decide_eq_true hlt
      have hlt1 := eq_true hlt
      have hk01 := eq_true hk0
      cases t with
      | true =>
        rw [if_pos rfl] at H
        have H' := Aside0.mk H
        clear H hk2 hk1 ht
        go_wp2_with (go_at_fn g; refine hcall.mono ?_; rintro e w' ⟨rfl, hb'⟩)
        go_ret
        exact ⟨by rw [← Option.some.inj H'.out]; rfl, hb'⟩
      | false =>
        rw [if_neg (by decide)] at H
        have H' := Aside0.mk H
        clear H hk2 hk1 ht
        go_wp2_with (go_at_fn g; refine hcall.mono ?_; rintro e w' ⟨rfl, hb'⟩)
        go_roundg (gk - 1)
        case measure => have := HK.out; omega
        case rel =>
          have hK := HK.out
          exact ⟨kk + 1, (by first | rfl | rw [show wrap64 (kk + 1) = kk + 1 by unfold wrap64; omega]), ⟨by omega⟩, ⟨hb'⟩, H'⟩
    · have hlt0 := decide_eq_false hlt
      have hlt1 := eq_false hlt
      clear hk2
      go_wp2
      go_ret
      have H := HA.out
      rw [List.drop_of_length_le (by omega), idxO] at H
      exact ⟨by rw [← Option.some.inj H]; rfl, HB.out⟩



/-! ### impl_Clue_115: function 115 -/
-- GIVEN slices.ContainsFunc[[]loop.example/g01305/impl.Clue,loop.example/g01305/impl.Clue] raw=1
theorem containsFunc_Clue (p : S76 → Option Bool) (r : Int) (g : Nat) (lb : Array Value) (eg : ∀ args w, (callFunc g args).run Try.prog w = .ok (.enter g args) w) (A0 : Option Addr) (c0 : Nat) (l0 : List S76) (w : World) (hr0 : Kd.C k76 w A0 l0.length l0) (hc0 : l0.length ≤ c0)
    (hp : PredC g lb p w) (h : idxO p l0 0 = some r) :
    Calls Try.prog 115 #[.slice A0 l0.length c0, .func (.func g) #[] lb] w fun e w' => e = .returned (.bool (decide (0 ≤ r))) ∧ Below w.heap.size w w' := by
  have H0 := Aside0.mk h
  clear h
  go_enter Try.func115, Try.ntmps115
  go_wp2_with (go_at_call 151; refine (indexFunc_Clue p r g lb eg A0 c0 l0 _ hr0 hc0 hp H0.out).mono ?_; rintro e w' ⟨rfl, hb'⟩)
  go_ret
  exact ⟨rfl, hb'⟩



/-! ### impl_within: function 93 -/
def impl_within.f (a0 : Int) (a1 : Int) (a2 : Int) : Option (Bool) := if a1 ≤ a0 then (some (decide (a0 ≤ a2))) else (some false)
set_option maxHeartbeats 8000000 in
set_option maxRecDepth 100000 in
theorem impl_within.calls (a0 : Int) (a1 : Int) (a2 : Int) (r : Bool) (w : World) (h : impl_within.f a0 a1 a2 = some r) :
    Calls Try.prog 93 #[.int .i64 a0, .int .i64 a1, .int .i64 a2] w fun e w' => e = .returned (.bool r) ∧ Drawn0 w w' := by
  have H : (if a1 ≤ a0 then (some (decide (a0 ≤ a2))) else (some false)) = some r := h
  clear h
  by_cases c4 : a1 ≤ a0
  · rw [if_pos c4] at H
    have c4b0 : decide (a1 ≤ a0) = true := decide_eq_true c4
    clear c4
    obtain rfl := Option.some.inj H
    go_enter Try.func93, Try.ntmps93
    go_wp2
    go_ret
    exact ⟨by first | rfl | (simp; done) | (simp [*]; done), by repeat (first | exact Drawn0.refl _ | apply Drawn0.step)⟩
  · rw [if_neg c4] at H
    have c4b0 : decide (a1 ≤ a0) = false := decide_eq_false c4
    clear c4
    obtain rfl := Option.some.inj H
    go_enter Try.func93, Try.ntmps93
    go_wp2
    go_ret
    exact ⟨by first | rfl | (simp; done) | (simp [*]; done), by repeat (first | exact Drawn0.refl _ | apply Drawn0.step)⟩

end Go.Proofs.Ytfiikhdkohgmfaa.PFnExactSolutions
