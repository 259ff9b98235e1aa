/- A walk over frames that are told as functions of the slot's number: each operation one lemma; the facts of the world as one bundle that stays as memory grows. No conditions. -/
import Derived.Deep.Quiet
import Derived.Test.YthklbgllgeigdaaWMore
import Derived.Test.YthklbgllgeigdaaWLast
namespace Go.Proofs.Ythklbgllgeigdaa.Lw
open Go.RowKit Go.Proofs.YthklbgllgeigdaaW.PrintWords Go.Proofs.YthklbgllgeigdaaW.PrintLast Go.Proofs.YthklbgllgeigdaaW.PrintMore
set_option linter.unusedVariables false
set_option linter.unusedSimpArgs false
def upd (f : Nat → Value) (d : Nat) (v : Value) : Nat → Value := fun i => bif Nat.beq i d then v else f i
def fr (n : Nat) (f : Nat → Value) : Act := ⟨Array.ofFn (n := n) fun i => f i.1, []⟩
theorem fr_of (A : Array Value) : (⟨A, []⟩ : Act) = fr A.size (fun i => A.getD i undef) := by
  unfold fr
  congr 1
  apply Array.ext
  · simp
  · intro i h1 h2
    simp [Array.getD, h1]
theorem ev_tmp {n : Nat} {f : Nat → Value} {t : Nat} (h : Nat.blt t n = true) : (fr n f).eval (.tmp t) = f t := by
  have h' : t < n := by simpa using h
  simp [fr, Act.eval, Array.getD, h']
theorem tmps_at {n : Nat} {f : Nat → Value} {t : Nat} (h : Nat.blt t n = true) : (fr n f).tmps[t]? = some (f t) := by
  have h' : t < n := by simpa using h
  simp [fr, h']
theorem put_ {n : Nat} {f : Nat → Value} {d : Nat} {v : Value} : (fr n f).put (some d) v = fr n (upd f d v) := by
  unfold fr Act.put
  simp only
  congr 1
  apply Array.ext
  · simp
  · intro i h1 h2
    simp only [Array.size_setIfInBounds, Array.size_ofFn] at h1
    by_cases e : i = d
    · subst e
      simp [upd, h1]
    · have : Nat.beq i d = false := by cases h : Nat.beq i d with | false => rfl | true => exact absurd (Nat.eq_of_beq_eq_true h) e
      rw [Array.getElem_setIfInBounds_ne (by simpa using h1) (fun h => e h.symm)]
      simp [upd, this]
/-- An operand's value. -/
def ev0 (f : Nat → Value) : Operand → Value
  | .tmp t => f t
  | .const v => v
  | .global g => .pointer (some ⟨g, 0, none⟩)
  | .func g => .func (.func g) #[] #[]
def ok0 (n : Nat) : Operand → Bool
  | .tmp t => Nat.blt t n
  | _ => true
theorem ev_ {n : Nat} {f : Nat → Value} {x : Operand} (h : ok0 n x = true) : (fr n f).eval x = ev0 f x := by
  cases x with
  | tmp t => exact ev_tmp h
  | const v => rfl
  | global g => rfl
  | func g => rfl
/-- The operation is carried out. -/
def Go_ (n : Nat) (f : Nat → Value) (ops : Array Oper) (o : Oper) : Prop := Region.wanted o (yielded ops (fr n f).tmps) = true
theorem go0 {n : Nat} {f : Nat → Value} {ops : Array Oper} {o : Oper} (h : o.guard = none) : Go_ n f ops o := by unfold Go_ Region.wanted; rw [h]
theorem go1 {n : Nat} {f : Nat → Value} {ops : Array Oper} {o : Oper} {j : Nat} {b : Bool} {t : Nat} (h : o.guard = some (j, b)) (hj : (ops[j]?).bind (·.dst) = some t) (ht : Nat.blt t n = true) (hb : f t = .bool b) : Go_ n f ops o := by
  unfold Go_ Region.wanted; rw [h]; simp only; unfold yielded; rw [hj, Option.bind_some, tmps_at ht, hb]; simp
theorem no1 {n : Nat} {f : Nat → Value} {ops : Array Oper} {o : Oper} {j : Nat} {b c : Bool} {t : Nat} (h : o.guard = some (j, b)) (hj : (ops[j]?).bind (·.dst) = some t) (ht : Nat.blt t n = true) (hb : f t = .bool c) (hc : (c == b) = false) : Region.wanted o (yielded ops (fr n f).tmps) = false := by
  unfold Region.wanted; rw [h]; simp only; unfold yielded; rw [hj, Option.bind_some, tmps_at ht, hb]; simpa using hc
section ops
variable {P : Program} {ops : Array Oper} {Q : Exit → Act → World → Prop} {rest : List Oper} {o : Oper} {f : Nat → Value} {w : World} {n d : Nat}
/-- An operation that yields a value. -/
theorem val {v : Value} {w1 : World} (hgo : Go_ n f ops o) (hd : o.dst = some d) (hr : (execOp (fr n f).eval o).run P w = .ok (.value v) w1) (h : wpList P ops Q rest (fr n (upd f d v)) w1) : wpList P ops Q (o :: rest) (fr n f) w := by
  unfold wpList
  rw [if_pos (show Region.wanted o (yielded ops (fr n f).tmps) = true from hgo)]
  refine .inl ?_
  unfold Oper.wp
  rw [hr, Oper.upon_value, hd, put_]
  exact h
/-- An operation that is passed over. -/
theorem skp (hno : Region.wanted o (yielded ops (fr n f).tmps) = false) (hd : o.dst = some d) (h : wpList P ops Q rest (fr n (upd f d undef)) w) : wpList P ops Q (o :: rest) (fr n f) w := by
  unfold wpList
  rw [if_neg (by rw [hno]; decide), hd, put_]
  exact h
theorem mv {x : Operand} (h : wpList P ops Q rest (fr n (upd f d (ev0 f x))) w) (hop : o.op = .move x) (hx : ok0 n x = true) (hd : o.dst = some d) (hgo : Go_ n f ops o) : wpList P ops Q (o :: rest) (fr n f) w := by
  refine val hgo hd ?_ h
  unfold execOp; simp only [hop]; rw [ev_ hx]; rfl
theorem as {x : Operand} (h : wpList P ops Q rest (fr n (upd f d (ev0 f x))) w) (hop : o.op = .assign x) (hx : ok0 n x = true) (hd : o.dst = some d) (hgo : Go_ n f ops o) : wpList P ops Q (o :: rest) (fr n f) w := by
  refine val hgo hd ?_ h
  unfold execOp; simp only [hop]; rw [ev_ hx]; rfl
theorem ext {x : Operand} {vs : Array Value} {i : Nat} {v : Value} (h : wpList P ops Q rest (fr n (upd f d v)) w) (hop : o.op = .extract x i) (hx : ok0 n x = true) (hd : o.dst = some d) (hv : ev0 f x = .tuple vs) (hi : vs[i]? = some v) (hgo : Go_ n f ops o) : wpList P ops Q (o :: rest) (fr n f) w := by
  refine val hgo hd ?_ h
  unfold execOp; simp only [hop]; rw [ev_ hx, hv]
  simp [Instr.extract, hi, go_sem]
theorem not_ {x : Operand} {T : TypeId} {b c : Bool} (h : wpList P ops Q rest (fr n (upd f d (.bool c))) w) (hc : (!b) = c) (hv : ev0 f x = .bool b) (hop : o.op = .unOp .not T x) (hx : ok0 n x = true) (hd : o.dst = some d) (hgo : Go_ n f ops o) : wpList P ops Q (o :: rest) (fr n f) w := by
  subst hc
  refine val hgo hd ?_ h
  unfold execOp; simp only [hop]; rw [ev_ hx, hv]
  simp [Op.unary, go_sem]
end ops
theorem i_neq {P : Program} {w : World} {T : TypeId} {k : IntKind} {a b : Int} {c : Bool} (h : (a != b) = c) : (binOp .neq T (.int k a) (.int k b)).run P w = .ok (.bool c) w := by subst h; simp [binOp, Op.intCmp, go_sem]
theorem i_eql {P : Program} {w : World} {T : TypeId} {k : IntKind} {a b : Int} {c : Bool} (h : (a == b) = c) : (binOp .eql T (.int k a) (.int k b)).run P w = .ok (.bool c) w := by subst h; simp [binOp, Op.intCmp, go_sem]
theorem i_lss {P : Program} {w : World} {T : TypeId} {k : IntKind} {a b : Int} {c : Bool} (h : decide (a < b) = c) : (binOp .lss T (.int k a) (.int k b)).run P w = .ok (.bool c) w := by subst h; simp [binOp, Op.intCmp, go_sem]
theorem i_leq {P : Program} {w : World} {T : TypeId} {k : IntKind} {a b : Int} {c : Bool} (h : decide (a ≤ b) = c) : (binOp .leq T (.int k a) (.int k b)).run P w = .ok (.bool c) w := by subst h; simp [binOp, Op.intCmp, go_sem]
theorem i_gtr {P : Program} {w : World} {T : TypeId} {k : IntKind} {a b : Int} {c : Bool} (h : decide (b < a) = c) : (binOp .gtr T (.int k a) (.int k b)).run P w = .ok (.bool c) w := by subst h; simp [binOp, Op.intCmp, go_sem]
theorem i_geq {P : Program} {w : World} {T : TypeId} {k : IntKind} {a b : Int} {c : Bool} (h : decide (b ≤ a) = c) : (binOp .geq T (.int k a) (.int k b)).run P w = .ok (.bool c) w := by subst h; simp [binOp, Op.intCmp, go_sem]
theorem equal_b {P : Program} {w : World} {T : TypeId} {a b : Bool} (hT : P.underlying T = some .bool) : (Op.equal T (.bool a) (.bool b)).run P w = .ok (a == b) w := by
  unfold Op.equal
  rw [show Op.maxDepth = (Op.maxDepth - 1) + 1 from rfl, Op.equalIn]
  simp [run_underlying hT, go_sem]
theorem b_neq {P : Program} {w : World} {T : TypeId} {a b : Bool} {c : Bool} (hT : P.underlying T = some .bool) (h : (a != b) = c) : (binOp .neq T (.bool a) (.bool b)).run P w = .ok (.bool c) w := by
  subst h
  rw [show binOp .neq T (.bool a) (.bool b) = (do pure (.bool (!(← Op.equal T (.bool a) (.bool b))))) from rfl]
  simp [go_sem, equal_b hT, bne]
theorem b_eql {P : Program} {w : World} {T : TypeId} {a b : Bool} {c : Bool} (hT : P.underlying T = some .bool) (h : (a == b) = c) : (binOp .eql T (.bool a) (.bool b)).run P w = .ok (.bool c) w := by
  subst h
  rw [show binOp .eql T (.bool a) (.bool b) = (do pure (.bool (← Op.equal T (.bool a) (.bool b)))) from rfl]
  simp [go_sem, equal_b hT]
theorem s_neq {P : Program} {w : World} {T : TypeId} {a b : ByteArray} {c : Bool} (h : (a.toList != b.toList) = c) : (binOp .neq T (.string a) (.string b)).run P w = .ok (.bool c) w := by subst h; simp [binOp, Op.stringOp, go_sem, bne]
theorem s_eql {P : Program} {w : World} {T : TypeId} {a b : ByteArray} {c : Bool} (h : (a.toList == b.toList) = c) : (binOp .eql T (.string a) (.string b)).run P w = .ok (.bool c) w := by subst h; simp [binOp, Op.stringOp, go_sem]
theorem i_add {P : Program} {w : World} {T : TypeId} {a b c : Int} (h : wrap64 (a + b) = c) : (binOp .add T (.int .i64 a) (.int .i64 b)).run P w = .ok (.int .i64 c) w := by subst h; simp only [binOp, Op.intArith, go_sem]; simp [go_sem, IntKind.wrap_i64, wrap64]
theorem i_sub {P : Program} {w : World} {T : TypeId} {a b c : Int} (h : wrap64 (a - b) = c) : (binOp .sub T (.int .i64 a) (.int .i64 b)).run P w = .ok (.int .i64 c) w := by subst h; simp only [binOp, Op.intArith, go_sem]; simp [go_sem, IntKind.wrap_i64, wrap64]
theorem i_mul {P : Program} {w : World} {T : TypeId} {a b c : Int} (h : wrap64 (a * b) = c) : (binOp .mul T (.int .i64 a) (.int .i64 b)).run P w = .ok (.int .i64 c) w := by subst h; simp only [binOp, Op.intArith, go_sem]; simp [go_sem, IntKind.wrap_i64, wrap64]
theorem size_of {P : Program} {e : TypeId} {m : Nat} {w : World} (h : (P.info? e).map (·.size) = some m) : (sizeOf e).run P w = .ok m w := by
  obtain ⟨i, h1, h2⟩ := Option.map_eq_some_iff.1 h
  simp [sizeOf, typeInfo, go_sem, h1, h2]
section ops
variable {P : Program} {ops : Array Oper} {Q : Exit → Act → World → Prop} {rest : List Oper} {o : Oper} {f : Nat → Value} {w : World} {n d : Nat}
/-- Two values that aren't structs or nil interfaces, put together. -/
theorem bin {x y : Operand} {T T2 : TypeId} {a b v : Value} {op : BinOp} (h : wpList P ops Q rest (fr n (upd f d v)) w) (hr : (binOp op T a b).run P w = .ok v w) (hv : ev0 f x = a) (hu : ev0 f y = b) (he : (eqGuard op T x y a b).run P w = .ok () w := by first | rfl | simp [eqGuard, go_sem]) (hop : o.op = .binOp op T x y T2) (hx : ok0 n x = true) (hy : ok0 n y = true) (hd : o.dst = some d) (hgo : Go_ n f ops o) : wpList P ops Q (o :: rest) (fr n f) w := by
  refine val hgo hd ?_ h
  unfold execOp; simp only [hop]; rw [ev_ hx, ev_ hy, hv, hu]
  simp [go_sem, he, hr]
theorem len_s {x : Operand} {t : TypeId} {A : Option Addr} {m c : Nat} (h : wpList P ops Q rest (fr n (upd f d (.int .i64 m))) w) (ht : P.underlying t = some (.slice (P.elem t))) (hop : o.op = .call { callee := .builtin .len, args := #[x], argTypes := #[t] }) (hv : ev0 f x = .slice A m c) (hx : ok0 n x = true) (hd : o.dst = some d) (hgo : Go_ n f ops o) : wpList P ops Q (o :: rest) (fr n f) w := by
  refine val hgo hd ?_ h
  have hE : (fr n f).eval x = .slice A m c := by rw [ev_ hx, hv]
  revert hE; generalize (fr n f).eval = E; intro hE
  unfold execOp; simp only [hop]
  simp [resolve, invoke, builtin, hE, go_sem, run_len_slice (h := ht), goInt]
theorem len_t {x : Operand} {t : TypeId} {s : ByteArray} (h : wpList P ops Q rest (fr n (upd f d (.int .i64 s.size))) w) (ht : P.underlying t = some .string) (hop : o.op = .call { callee := .builtin .len, args := #[x], argTypes := #[t] }) (hv : ev0 f x = .string s) (hx : ok0 n x = true) (hd : o.dst = some d) (hgo : Go_ n f ops o) : wpList P ops Q (o :: rest) (fr n f) w := by
  refine val hgo hd ?_ h
  have hE : (fr n f).eval x = .string s := by rw [ev_ hx, hv]
  revert hE; generalize (fr n f).eval = E; intro hE
  unfold execOp; simp only [hop]
  simp [resolve, invoke, builtin, hE, go_sem, run_len_string (h := ht), goInt]
theorem pk {c x y : Operand} {b : Bool} {v : Value} (h : wpList P ops Q rest (fr n (upd f d v)) w) (hv : (bif b then ev0 f x else ev0 f y) = v) (hc : ev0 f c = .bool b) (hop : o.op = .pick c x y) (hk : ok0 n c = true) (hx : ok0 n x = true) (hy : ok0 n y = true) (hd : o.dst = some d) (hgo : Go_ n f ops o) : wpList P ops Q (o :: rest) (fr n f) w := by
  refine val hgo hd ?_ h
  unfold execOp; simp only [hop]; rw [ev_ hk, ev_ hx, ev_ hy, hc]
  subst hv
  cases b <;> simp [asBool, go_sem]
/-- The address of an element of a row whose elements take one cell. -/
theorem ix {x i : Operand} {t : TypeId} {k : IntKind} {ad : Addr} {m c : Nat} {q : Int} (h : wpList P ops Q rest (fr n (upd f d (.pointer (some (ad.add q.toNat))))) w) (ht : P.underlying t = some (.slice (P.elem t))) (hs : (P.info? (P.elem t)).map (·.size) = some 1) (h0 : 0 ≤ q) (h1 : q < m) (hv : ev0 f x = .slice (some ad) m c) (hi : ev0 f i = .int k q) (hop : o.op = .indexAddr t x i) (hx : ok0 n x = true) (hy : ok0 n i = true) (hd : o.dst = some d) (hgo : Go_ n f ops o) : wpList P ops Q (o :: rest) (fr n f) w := by
  refine val hgo hd ?_ h
  unfold execOp; simp only [hop]; rw [ev_ hx, ev_ hy, hv, hi]
  have e := size_of (w := w) hs
  unfold Program.elem at e
  simp [go_sem, run_indexAt_slice (h := ht), h0, h1, e]
theorem ld {p : Operand} {T : TypeId} {a : Addr} {v : Value} (h : wpList P ops Q rest (fr n (upd f d v)) w) (hr : (Instr.loadAt T (.pointer (some a))).run P w = .ok v w) (hv : ev0 f p = .pointer (some a)) (hop : o.op = .load T p) (hx : ok0 n p = true) (hd : o.dst = some d) (hgo : Go_ n f ops o) : wpList P ops Q (o :: rest) (fr n f) w := by
  refine val hgo hd ?_ h
  unfold execOp; simp only [hop]; rw [ev_ hx, hv]
  revert hr; generalize Instr.loadAt T (.pointer (some a)) = L; intro hr
  simp [go_sem, hr]
theorem load_i {T : TypeId} {k : IntKind} {a : Addr} {v : Value} (hT : P.underlying T = some (.int k)) (hc : w.cell? a = some v) : (Instr.loadAt T (.pointer (some a))).run P w = .ok v w := by
  simp [Instr.loadAt, Instr.sureAddr, loadVar, isAgg, run_underlying hT, go_sem, hc]
theorem load_s {T : TypeId} {e : TypeId} {a : Addr} {v : Value} (hT : P.underlying T = some (.slice e)) (hc : w.cell? a = some v) : (Instr.loadAt T (.pointer (some a))).run P w = .ok v w := by
  simp [Instr.loadAt, Instr.sureAddr, loadVar, isAgg, run_underlying hT, go_sem, hc]
/-- A call. -/
theorem cl {g : Nat} {fn : Func} {as : Array Operand} {ts : Array TypeId} (hf : P.funcs[g]? = some fn) (args : List Value) (h : Calls P g args.toArray w fun e w' => ∃ v, e = .returned v ∧ wpList P ops Q rest (fr n (upd f d v)) w') (hname : (fn.name == "runtime.NumGoroutine") = false) (hb : fn.body.isSome = true)
    (hop : o.op = .call { callee := .value (.func g), args := as, argTypes := ts }) (hargs : as.toList.map (ev0 f) = args) (hx : as.toList.all (ok0 n) = true) (hd : o.dst = some d) (hgo : Go_ n f ops o) : wpList P ops Q (o :: rest) (fr n f) w := by
  have ha : as.map (fr n f).eval = args.toArray := by
    apply Array.toList_inj.1
    rw [Array.toList_map, ← hargs]
    exact List.map_congr_left (fun x hx' => ev_ (List.all_eq_true.1 hx x hx'))
  have he := enters_ hf hname hb args.toArray w
  unfold wpList
  rw [if_pos (show Region.wanted o (yielded ops (fr n f).tmps) = true from hgo)]
  refine .inl ?_
  have hrun : (execOp (fr n f).eval o).run P w = .ok (.enter g args.toArray) w := by
    unfold execOp
    simp [hop, resolve, Deferred.ofValue, invoke, ev_ (n := n) (f := f) (x := .func g) rfl, ev0, ha, he]
  unfold Oper.wp
  rw [hrun, Oper.upon_enter]
  refine h.mono fun e w'' hh => ?_
  obtain ⟨v, rfl, hk⟩ := hh
  show wpList P ops Q rest ((fr n f).put o.dst v) w''
  rw [hd, put_]
  exact hk
end ops
section ctl
variable {P : Program} {Q : Exit → Act → World → Prop} {f : Nat → Value} {w : World} {n : Nat}
theorem cT {c : Operand} {x y : Code} (h : x.wp P Q (fr n f) w) (hc : ev0 f c = .bool true) (hk : ok0 n c = true) : (Code.cond c x y).wp P Q (fr n f) w := wp_cond_true ((ev_ hk).trans hc) h
theorem cF {c : Operand} {x y : Code} (h : y.wp P Q (fr n f) w) (hc : ev0 f c = .bool false) (hk : ok0 n c = true) : (Code.cond c x y).wp P Q (fr n f) w := wp_cond_false ((ev_ hk).trans hc) h
/-- At the head of a loop's round. -/
def AtHead (P : Program) (c : Code) (Q : Exit → Act → World → Prop) (a : Act) (w : World) : Prop :=
  ∀ (b : Frame) (k : List Item) (cs : List Frame), ∃ e a' w', Q e a' w' ∧ Arrives P (lone (b.at a (.code c :: .inLoop c :: k)) cs w) b k cs e a' w'
theorem head_loop {c : Code} {a : Act} (h : AtHead P c Q a w) : (Code.loop c).wp P Q a w := by
  intro b k cs
  obtain ⟨e, a', w', hq, harr⟩ := h b k cs
  exact ⟨e, a', w', hq, .of_steps (.one step_loop) harr⟩
theorem head_round {c : Code} {a : Act} (h : c.wp P (Exit.then (fun a' w' => AtHead P c Q a' w') Q) a w) : AtHead P c Q a w := by
  intro b k cs
  obtain ⟨e, a₁, w₁, hq, harr⟩ := h b (.inLoop c :: k) cs
  cases e with
  | normal =>
    obtain ⟨e₂, a₂, w₂, hq₂, harr₂⟩ := hq b k cs
    exact ⟨e₂, a₂, w₂, hq₂, .of_steps (Steps.trans harr (.one step_inLoop)) harr₂⟩
  | exit id => exact ⟨_, a₁, w₁, hq, .pass (x := .inLoop c) rfl (fun _ _ => .inl (by simp)) harr⟩
  | goto l => exact ⟨_, a₁, w₁, hq, .pass (x := .inLoop c) rfl (fun _ _ => .inl (by simp)) harr⟩
  | ret => exact ⟨_, a₁, w₁, hq, .pass (x := .inLoop c) rfl (fun _ _ => .inl (by simp)) harr⟩
  | panic ch => exact ⟨_, a₁, w₁, hq, .pass (x := .inLoop c) rfl (fun _ _ => .inl (by simp)) harr⟩
  | outgrown => exact ⟨_, a₁, w₁, hq, .pass (x := .inLoop c) rfl (fun _ _ => .inl (by simp)) harr⟩
end ctl
/-- A call, by the walk of its body: the frame's first places hold the arguments. -/
theorem enter {P : Program} {g : Nat} {fn : Func} {c : Code} {args : List Value} {w : World} {R : Ending → World → Prop} {n : Nat} (hf : P.funcs[g]? = some fn) (hb : fn.body = some c) (hn : fn.ntmps = n) (hl : args.length ≤ n)
    (h : ∀ f : Nat → Value, (∀ i v, args[i]? = some v → f i = v) → c.wp P (bodyPost P fn R) (fr n f) w) : Calls P g args.toArray w R := by
  refine calls_of_wp hf hb ?_
  rw [fr_of]
  have e : (args.toArray ++ Array.replicate (fn.ntmps - args.toArray.size) undef).size = n := by simp [hn]; omega
  rw [e]
  refine h _ (fun i v hi => ?_)
  have hi' : i < args.length := (List.getElem?_eq_some_iff.1 hi).1
  have hv := (List.getElem?_eq_some_iff.1 hi).2
  simp [Array.getD_eq_getD_getElem?, Array.getElem?_append, hi', hv]
theorem leave {P : Program} {fn : Func} {R : Ending → World → Prop} {n : Nat} {f : Nat → Value} {w : World} {t : Nat} {v : Value} (hr : fn.results = #[.tmp t]) (ht : Nat.blt t n = true) (hv : f t = v) (h : R (.returned v) w) : bodyPost P fn R .ret (fr n f) w := by
  refine ⟨rfl, _, results_tmp hr _ _ _, ?_⟩
  have := ev_tmp (f := f) ht
  unfold Act.eval at this
  simp only at this
  rw [this, hv]; exact h
/-- From this world on. -/
def On (w : World) (p : World → Prop) : Prop := ∀ w', Below w.heap.size w w' → p w'
theorem On.now {w : World} {p : World → Prop} (h : On w p) : p w := h w (Below.refl _ _)
theorem On.adv {w w' : World} {p : World → Prop} (h : On w p) (b : Below w.heap.size w w') : On w' p := fun w'' b' => h w'' (below_step b b')
theorem On.add {w : World} {p q : World → Prop} (h : On w p) (k : On w q) : On w (fun x => q x ∧ p x) := fun x b => ⟨k x b, h x b⟩
theorem On.drop {w : World} {p q : World → Prop} (h : On w (fun x => q x ∧ p x)) : On w p := fun x b => (h x b).2
theorem on_C {α : Type} {d : Kd α} {w : World} {A : Option Addr} {m : Nat} {xs : List α} (h : d.C w A m xs) : On w (fun x => d.C x A m xs) := fun _ b => Kd.C_below h b
theorem on_B {w0 w : World} (h : Below w0.heap.size w0 w) : On w (fun x => Below w0.heap.size w0 x) := fun _ b => below_step h b
theorem bind_ {α β : Type} {x : Option α} {g : α → Option β} {r : β} (h : x.bind g = some r) : ∃ a, x = some a ∧ g a = some r := Option.bind_eq_some_iff.1 h
theorem ifn {α : Type} {b : Bool} {x : Option α} {r : α} (h : (if b = true then none else x) = some r) : b = false ∧ x = some r := by cases b with | true => cases h | false => exact ⟨rfl, h⟩
theorem ify {α : Type} {b : Bool} {x : Option α} {r : α} (h : (if b = true then x else none) = some r) : b = true ∧ x = some r := by cases b with | false => cases h | true => exact ⟨rfl, h⟩
theorem not_t {b : Bool} (h : b = true) : (!b) = false := by rw [h]; rfl
section gen
variable {P : Program} {ops : Array Oper} {Q : Exit → Act → World → Prop} {rest : List Oper} {o : Oper} {f : Nat → Value} {w : World} {n d : Nat}
theorem no1u {n : Nat} {f : Nat → Value} {ops : Array Oper} {o : Oper} {j : Nat} {b : Bool} {t : Nat} (h : o.guard = some (j, b)) (hj : (ops[j]?).bind (·.dst) = some t) (ht : Nat.blt t n = true) (hb : f t = undef) : Region.wanted o (yielded ops (fr n f).tmps) = false := by
  unfold Region.wanted; rw [h]; simp only; unfold yielded; rw [hj, Option.bind_some, tmps_at ht, hb]; rfl
theorem mv_ {x : Operand} {v : Value} (hop : o.op = .move x) (hx : ok0 n x = true) (hd : o.dst = some d) (hgo : Go_ n f ops o) (hv : ev0 f x = v) (h : wpList P ops Q rest (fr n (upd f d v)) w) : wpList P ops Q (o :: rest) (fr n f) w := by
  subst hv; exact mv h hop hx hd hgo
theorem as_ {x : Operand} {v : Value} (hop : o.op = .assign x) (hx : ok0 n x = true) (hd : o.dst = some d) (hgo : Go_ n f ops o) (hv : ev0 f x = v) (h : wpList P ops Q rest (fr n (upd f d v)) w) : wpList P ops Q (o :: rest) (fr n f) w := by
  subst hv; exact as h hop hx hd hgo
theorem ext_ {x : Operand} {vs : Array Value} {i : Nat} {v : Value} (hop : o.op = .extract x i) (hx : ok0 n x = true) (hd : o.dst = some d) (hgo : Go_ n f ops o) (hv : ev0 f x = .tuple vs) (hi : vs[i]? = some v) (h : wpList P ops Q rest (fr n (upd f d v)) w) : wpList P ops Q (o :: rest) (fr n f) w := ext h hop hx hd hv hi hgo
theorem m0 {x : Operand} (v : Value) (hop : o.op = .move x) (hx : ok0 n x = true) (hd : o.dst = some d) (hg : o.guard = none) (hv : ev0 f x = v) (h : wpList P ops Q rest (fr n (upd f d v)) w) : wpList P ops Q (o :: rest) (fr n f) w := mv_ hop hx hd (go0 hg) hv h
theorem a0 {x : Operand} (v : Value) (hop : o.op = .assign x) (hx : ok0 n x = true) (hd : o.dst = some d) (hg : o.guard = none) (hv : ev0 f x = v) (h : wpList P ops Q rest (fr n (upd f d v)) w) : wpList P ops Q (o :: rest) (fr n f) w := as_ hop hx hd (go0 hg) hv h
theorem x0 {x : Operand} {vs : Array Value} {i : Nat} (v : Value) (hop : o.op = .extract x i) (hx : ok0 n x = true) (hd : o.dst = some d) (hg : o.guard = none) (hv : ev0 f x = .tuple vs) (hi : vs[i]? = some v) (h : wpList P ops Q rest (fr n (upd f d v)) w) : wpList P ops Q (o :: rest) (fr n f) w := ext_ hop hx hd (go0 hg) hv hi h
theorem nilt {K : Act → World → Prop} (h : K (fr n f) w) : wpList P ops (Exit.then K Q) [] (fr n f) w := h
theorem nt_ {x : Operand} {T : TypeId} {b c : Bool} (hop : o.op = .unOp .not T x) (hx : ok0 n x = true) (hd : o.dst = some d) (hgo : Go_ n f ops o) (hv : ev0 f x = .bool b) (hc : (!b) = c) (h : wpList P ops Q rest (fr n (upd f d (.bool c))) w) : wpList P ops Q (o :: rest) (fr n f) w := not_ h hc hv hop hx hd hgo
theorem bi_ {x y : Operand} {T T2 : TypeId} {k : IntKind} {a b : Int} {v : Value} {op : BinOp} (hop : o.op = .binOp op T x y T2) (hx : ok0 n x = true) (hy : ok0 n y = true) (hd : o.dst = some d) (hgo : Go_ n f ops o) (hv : ev0 f x = .int k a) (hu : ev0 f y = .int k b) (hr : (binOp op T (.int k a) (.int k b)).run P w = .ok v w) (h : wpList P ops Q rest (fr n (upd f d v)) w) : wpList P ops Q (o :: rest) (fr n f) w :=
  bin h hr hv hu (by cases op <;> simp [eqGuard, go_sem]) hop hx hy hd hgo
theorem bb_ {x y : Operand} {T T2 : TypeId} {a b : Bool} {v : Value} {op : BinOp} (hop : o.op = .binOp op T x y T2) (hx : ok0 n x = true) (hy : ok0 n y = true) (hd : o.dst = some d) (hgo : Go_ n f ops o) (hv : ev0 f x = .bool a) (hu : ev0 f y = .bool b) (hr : (binOp op T (.bool a) (.bool b)).run P w = .ok v w) (h : wpList P ops Q rest (fr n (upd f d v)) w) : wpList P ops Q (o :: rest) (fr n f) w :=
  bin h hr hv hu (by cases op <;> simp [eqGuard, go_sem]) hop hx hy hd hgo
theorem bs_ {x y : Operand} {T T2 : TypeId} {a b : ByteArray} {v : Value} {op : BinOp} (hop : o.op = .binOp op T x y T2) (hx : ok0 n x = true) (hy : ok0 n y = true) (hd : o.dst = some d) (hgo : Go_ n f ops o) (hv : ev0 f x = .string a) (hu : ev0 f y = .string b) (hr : (binOp op T (.string a) (.string b)).run P w = .ok v w) (h : wpList P ops Q rest (fr n (upd f d v)) w) : wpList P ops Q (o :: rest) (fr n f) w :=
  bin h hr hv hu (by cases op <;> simp [eqGuard, go_sem]) hop hx hy hd hgo
theorem ln_ {x : Operand} {t : TypeId} {A : Option Addr} {m c : Nat} (ht : P.underlying t = some (.slice (P.elem t))) (hop : o.op = .call { callee := .builtin .len, args := #[x], argTypes := #[t] }) (hx : ok0 n x = true) (hd : o.dst = some d) (hgo : Go_ n f ops o) (hv : ev0 f x = .slice A m c) (h : wpList P ops Q rest (fr n (upd f d (.int .i64 m))) w) : wpList P ops Q (o :: rest) (fr n f) w := len_s h ht hop hv hx hd hgo
theorem lt_ {x : Operand} {t : TypeId} {s : ByteArray} (ht : P.underlying t = some .string) (hop : o.op = .call { callee := .builtin .len, args := #[x], argTypes := #[t] }) (hx : ok0 n x = true) (hd : o.dst = some d) (hgo : Go_ n f ops o) (hv : ev0 f x = .string s) (h : wpList P ops Q rest (fr n (upd f d (.int .i64 s.size))) w) : wpList P ops Q (o :: rest) (fr n f) w := len_t h ht hop hv hx hd hgo
theorem pk_ {c x y : Operand} {b : Bool} {v : Value} (hop : o.op = .pick c x y) (hk : ok0 n c = true) (hx : ok0 n x = true) (hy : ok0 n y = true) (hd : o.dst = some d) (hgo : Go_ n f ops o) (hc : ev0 f c = .bool b) (hv : (bif b then ev0 f x else ev0 f y) = v) (h : wpList P ops Q rest (fr n (upd f d v)) w) : wpList P ops Q (o :: rest) (fr n f) w := pk h hv hc hop hk hx hy hd hgo
/-- The address of an element: the row is read as a list. -/
theorem ix_ {x i : Operand} {t : TypeId} {k : IntKind} {A : Option Addr} {ad : Addr} {m c : Nat} {q : Int} (ht : P.underlying t = some (.slice (P.elem t))) (hs : (P.info? (P.elem t)).map (·.size) = some 1) (hop : o.op = .indexAddr t x i) (hx : ok0 n x = true) (hy : ok0 n i = true) (hd : o.dst = some d) (hgo : Go_ n f ops o) (hv : ev0 f x = .slice A m c) (hi : ev0 f i = .int k q) (eA : A = some ad) (hq : 0 ≤ q ∧ q < m) (h : wpList P ops Q rest (fr n (upd f d (.pointer (some (ad.add q.toNat))))) w) : wpList P ops Q (o :: rest) (fr n f) w := by
  subst eA; exact ix h ht hs hq.1 hq.2 hv hi hop hx hy hd hgo
theorem ld_ {p : Operand} {T : TypeId} {a : Addr} {v : Value} (hop : o.op = .load T p) (hx : ok0 n p = true) (hd : o.dst = some d) (hgo : Go_ n f ops o) (hv : ev0 f p = .pointer (some a)) (hr : (Instr.loadAt T (.pointer (some a))).run P w = .ok v w) (h : wpList P ops Q rest (fr n (upd f d v)) w) : wpList P ops Q (o :: rest) (fr n f) w := ld h hr hv hop hx hd hgo
theorem cl_ {g : Nat} {fn : Func} {as : Array Operand} {ts : Array TypeId} {args : List Value} (hf : P.funcs[g]? = some fn) (hname : (fn.name == "runtime.NumGoroutine") = false) (hb : fn.body.isSome = true) (hop : o.op = .call { callee := .value (.func g), args := as, argTypes := ts }) (hx : as.toList.all (ok0 n) = true) (hd : o.dst = some d) (hgo : Go_ n f ops o) (hargs : as.toList.map (ev0 f) = args) (h : Calls P g args.toArray w fun e w' => ∃ v, e = .returned v ∧ wpList P ops Q rest (fr n (upd f d v)) w') : wpList P ops Q (o :: rest) (fr n f) w := cl hf args h hname hb hop hargs hx hd hgo
end gen
theorem argn {f : Nat → Value} : ([] : List Operand).map (ev0 f) = [] := rfl
theorem argc {f : Nat → Value} {x : Operand} {xs : List Operand} {v : Value} {vs : List Value} (h : ev0 f x = v) (k : xs.map (ev0 f) = vs) : (x :: xs).map (ev0 f) = v :: vs := by rw [List.map_cons, h, k]
/-- The slots below m hold what they held. -/
def Same (m : Nat) (f g : Nat → Value) : Prop := ∀ i, Nat.blt i m = true → g i = f i
theorem Same.refl (m : Nat) (f : Nat → Value) : Same m f f := fun _ _ => rfl
theorem Same.trans {m : Nat} {f g h : Nat → Value} (a : Same m f g) (b : Same m g h) : Same m f h := fun i hi => (b i hi).trans (a i hi)
theorem Same.put {m d : Nat} {f g : Nat → Value} {v : Value} (h : Same m f g) (hd : Nat.ble m d = true) : Same m f (upd g d v) := fun i hi => by
  have h1 : i < m := by simpa using hi
  have h2 : m ≤ d := Nat.le_of_ble_eq_true hd
  have : Nat.beq i d = false := by cases e : Nat.beq i d with | false => rfl | true => exact absurd (Nat.eq_of_beq_eq_true e) (by omega)
  unfold upd; rw [this]; exact h i hi
theorem wp_then {P : Program} {o : Oper} {a : Act} {w : World} {K next : Act → World → Prop} {Q : Exit → Act → World → Prop} (h : o.wp P a w next (Exit.then K Q)) : o.wp P a w next Q := by
  unfold Oper.wp at *
  generalize (execOp a.eval o).run P w = r at *
  cases r with
  | ok n w' => cases n <;> simp only [Oper.upon] at h ⊢ <;> first | exact h | exact Calls.mono h (fun e w'' he => by cases e <;> exact he)
  | halt x w' => cases x <;> simp only [Oper.upon] at h ⊢ <;> exact h
theorem list_then {P : Program} {ops : Array Oper} {Q : Exit → Act → World → Prop} {K : Act → World → Prop} {l2 : List Oper} (hK : ∀ a w, K a w → wpList P ops Q l2 a w) : ∀ (l1 : List Oper) (a : Act) (w : World), wpList P ops (Exit.then K Q) l1 a w → wpList P ops Q (l1 ++ l2) a w
  | [], a, w, h => hK a w h
  | o :: l, a, w, h => by
    rw [List.cons_append]
    unfold wpList at h ⊢
    by_cases c : Region.wanted o (yielded ops a.tmps) = true
    · rw [if_pos c] at h ⊢
      rcases h with h | h
      · exact .inl (Oper.wp_mono (fun a w => list_then hK l a w) (wp_then h))
      · exact .inr h
    · rw [if_neg c] at h ⊢
      exact list_then hK l _ w h
/-- A cut in a row of operations. -/
theorem cut_ {P : Program} {ops : Array Oper} {Q : Exit → Act → World → Prop} {n : Nat} {f : Nat → Value} {w : World} {l : List Oper} (k : Nat) (M : (Nat → Value) → (Nat → Value) → World → Prop) (h1 : wpList P ops (Exit.then (fun a w' => ∃ g, a = fr n g ∧ M f g w') Q) (l.take k) (fr n f) w) (h2 : ∀ g w', M f g w' → wpList P ops Q (l.drop k) (fr n g) w') : wpList P ops Q l (fr n f) w := by
  rw [← List.take_append_drop k l]
  exact list_then (fun a w ⟨g, e, hm⟩ => by subst e; exact h2 g w hm) _ _ _ h1
theorem R3 {α : Type} {d : Kd α} {e base : Nat} {ok : Nat → Prop} {w : World} {v : Value} {xs : List α} (h : d.R e w base ok v xs) : ∃ A c, v = .slice A xs.length c ∧ xs.length ≤ c ∧ On w (fun x => d.C x A xs.length xs) := by
  obtain ⟨A, c, h1, h2, h3⟩ := Kd.R_reads h
  exact ⟨A, c, h1, h2, on_C h3⟩
theorem V3 {α : Type} {d : Kd α} {e base : Nat} {ok : Nat → Prop} {w : World} {v : Value} {xs : List α} (h : d.V e w base ok v xs) : ∃ A c, v = .slice A xs.length c ∧ xs.length ≤ c ∧ On w (fun x => d.C x A xs.length xs) := by
  obtain ⟨A, c, rfl, h2, h3⟩ := h
  exact ⟨A, c, rfl, h2, on_C (Kd.F_now h3)⟩
theorem S3 {α : Type} {d : Kd α} {e base : Nat} {ok : Nat → Prop} {w : World} {v : Value} {xs : List α} (h : d.S e w base ok v xs) : ∃ A c, v = .slice A xs.length c ∧ xs.length ≤ c ∧ On w (fun x => d.C x A xs.length xs) := by
  obtain ⟨A, c, h1, h2, h3⟩ := Kd.S_reads h
  exact ⟨A, c, h1, h2, on_C h3⟩
theorem bnd {q : Int} {m : Nat} (h : (decide (0 ≤ q) && decide (q < (m : Int))) = true) : 0 ≤ q ∧ q < m := by simpa using h
theorem then_n {K : Act → World → Prop} {Q : Exit → Act → World → Prop} {a : Act} {w : World} (h : K a w) : Exit.then K Q .normal a w := h
theorem then_r {K : Act → World → Prop} {Q : Exit → Act → World → Prop} {a : Act} {w : World} (h : Q .ret a w) : Exit.then K Q .ret a w := h
theorem then_x {K : Act → World → Prop} {Q : Exit → Act → World → Prop} {a : Act} {w : World} {i : Nat} (h : Q (.exit i) a w) : Exit.then K Q (.exit i) a w := h
theorem blk_n {i : Nat} {Q : Exit → Act → World → Prop} {a : Act} {w : World} (h : Q .normal a w) : Exit.inBlock i Q .normal a w := h
theorem blk_r {i : Nat} {Q : Exit → Act → World → Prop} {a : Act} {w : World} (h : Q .ret a w) : Exit.inBlock i Q .ret a w := h
theorem blk_x {i : Nat} {Q : Exit → Act → World → Prop} {a : Act} {w : World} (h : Q .normal a w) : Exit.inBlock i Q (.exit i) a w := by simpa [Exit.inBlock] using h
theorem blk_o {i j : Nat} {Q : Exit → Act → World → Prop} {a : Act} {w : World} (hj : Nat.beq j i = false) (h : Q (.exit j) a w) : Exit.inBlock i Q (.exit j) a w := by
  have : j ≠ i := fun e => by subst e; simp at hj
  simpa [Exit.inBlock, this] using h
def sl : Code → Code | .seq a _ => a | c => c
def sr : Code → Code | .seq _ b => b | c => c
def bl : Code → Code | .block _ a => a | c => c
def lb : Code → Code | .loop a => a | c => c
def ct : Code → Code | .cond _ a _ => a | c => c
def ce : Code → Code | .cond _ _ b => b | c => c
def srn : Nat → Code → Code | 0, c => c | n + 1, c => srn n (sr c)
theorem ifs {α : Type} {b : Bool} {x y : Option α} {r : α} (h : (if b = true then x else y) = some r) : (b = true ∧ x = some r) ∨ (b = false ∧ y = some r) := by cases b with | true => exact .inl ⟨rfl, h⟩ | false => exact .inr ⟨rfl, h⟩
theorem vb {b c : Bool} (h : b = c) : Value.bool b = .bool c := congrArg Value.bool h
theorem rb {b c : Bool} (h : b = c) : Ending.returned (Value.bool b) = .returned (.bool c) := congrArg (fun b => Ending.returned (Value.bool b)) h
/-! ### The same walk where the order is free and every operation leaves the world but for what is later than w0 -/
section quiet
variable {P : Program} {ops : Array Oper} {C : World → Prop} {Q : Act → Prop} {rest : List Oper} {o : Oper} {f : Nat → Value} {n d : Nat}
theorem qval {v : Value} (hgo : Go_ n f ops o) (hd : o.dst = some d) (hr : ∀ w, C w → (execOp (fr n f).eval o).run P w = .ok (.value v) w) (h : wpQuiet P ops C Q rest (fr n (upd f d v))) : wpQuiet P ops C Q (o :: rest) (fr n f) := by
  unfold wpQuiet
  rw [if_pos (show Region.wanted o (yielded ops (fr n f).tmps) = true from hgo)]
  refine ⟨v, fun w hw => ?_, ?_⟩
  · unfold Oper.quietAt; rw [hr w hw]; exact ⟨rfl, rfl⟩
  · rw [hd, put_]; exact h
theorem skpq (hno : Region.wanted o (yielded ops (fr n f).tmps) = false) (hd : o.dst = some d) (h : wpQuiet P ops C Q rest (fr n (upd f d undef))) : wpQuiet P ops C Q (o :: rest) (fr n f) := by
  unfold wpQuiet
  rw [if_neg (by rw [hno]; decide), hd, put_]
  exact h
theorem mvq {x : Operand} {v : Value} (hop : o.op = .move x) (hx : ok0 n x = true) (hd : o.dst = some d) (hgo : Go_ n f ops o) (hv : ev0 f x = v) (h : wpQuiet P ops C Q rest (fr n (upd f d v))) : wpQuiet P ops C Q (o :: rest) (fr n f) := by
  subst hv
  refine qval hgo hd (fun w _ => ?_) h
  unfold execOp; simp only [hop]; rw [ev_ hx]; rfl
theorem asq {x : Operand} {v : Value} (hop : o.op = .assign x) (hx : ok0 n x = true) (hd : o.dst = some d) (hgo : Go_ n f ops o) (hv : ev0 f x = v) (h : wpQuiet P ops C Q rest (fr n (upd f d v))) : wpQuiet P ops C Q (o :: rest) (fr n f) := by
  subst hv
  refine qval hgo hd (fun w _ => ?_) h
  unfold execOp; simp only [hop]; rw [ev_ hx]; rfl
theorem ntq {x : Operand} {T : TypeId} {b c : Bool} (hop : o.op = .unOp .not T x) (hx : ok0 n x = true) (hd : o.dst = some d) (hgo : Go_ n f ops o) (hv : ev0 f x = .bool b) (hc : (!b) = c) (h : wpQuiet P ops C Q rest (fr n (upd f d (.bool c)))) : wpQuiet P ops C Q (o :: rest) (fr n f) := by
  subst hc
  refine qval hgo hd (fun w _ => ?_) h
  unfold execOp; simp only [hop]; rw [ev_ hx, hv]
  simp [Op.unary, go_sem]
theorem binq {x y : Operand} {T T2 : TypeId} {a b v : Value} {op : BinOp} (hop : o.op = .binOp op T x y T2) (hx : ok0 n x = true) (hy : ok0 n y = true) (hd : o.dst = some d) (hgo : Go_ n f ops o) (hv : ev0 f x = a) (hu : ev0 f y = b) (he : ∀ w : World, (eqGuard op T x y a b).run P w = .ok () w) (hr : ∀ w : World, (binOp op T a b).run P w = .ok v w) (h : wpQuiet P ops C Q rest (fr n (upd f d v))) : wpQuiet P ops C Q (o :: rest) (fr n f) := by
  refine qval hgo hd (fun w _ => ?_) h
  unfold execOp; simp only [hop]; rw [ev_ hx, ev_ hy, hv, hu]
  simp [go_sem, he, hr]
theorem biq {x y : Operand} {T T2 : TypeId} {k : IntKind} {a b : Int} {v : Value} {op : BinOp} (hop : o.op = .binOp op T x y T2) (hx : ok0 n x = true) (hy : ok0 n y = true) (hd : o.dst = some d) (hgo : Go_ n f ops o) (hv : ev0 f x = .int k a) (hu : ev0 f y = .int k b) (hr : ∀ w : World, (binOp op T (.int k a) (.int k b)).run P w = .ok v w) (h : wpQuiet P ops C Q rest (fr n (upd f d v))) : wpQuiet P ops C Q (o :: rest) (fr n f) :=
  binq hop hx hy hd hgo hv hu (fun _ => by cases op <;> simp [eqGuard, go_sem]) hr h
theorem bbq {x y : Operand} {T T2 : TypeId} {a b : Bool} {v : Value} {op : BinOp} (hop : o.op = .binOp op T x y T2) (hx : ok0 n x = true) (hy : ok0 n y = true) (hd : o.dst = some d) (hgo : Go_ n f ops o) (hv : ev0 f x = .bool a) (hu : ev0 f y = .bool b) (hr : ∀ w : World, (binOp op T (.bool a) (.bool b)).run P w = .ok v w) (h : wpQuiet P ops C Q rest (fr n (upd f d v))) : wpQuiet P ops C Q (o :: rest) (fr n f) :=
  binq hop hx hy hd hgo hv hu (fun _ => by cases op <;> simp [eqGuard, go_sem]) hr h
theorem bsq {x y : Operand} {T T2 : TypeId} {a b : ByteArray} {v : Value} {op : BinOp} (hop : o.op = .binOp op T x y T2) (hx : ok0 n x = true) (hy : ok0 n y = true) (hd : o.dst = some d) (hgo : Go_ n f ops o) (hv : ev0 f x = .string a) (hu : ev0 f y = .string b) (hr : ∀ w : World, (binOp op T (.string a) (.string b)).run P w = .ok v w) (h : wpQuiet P ops C Q rest (fr n (upd f d v))) : wpQuiet P ops C Q (o :: rest) (fr n f) :=
  binq hop hx hy hd hgo hv hu (fun _ => by cases op <;> simp [eqGuard, go_sem]) hr h
theorem lnq {x : Operand} {t : TypeId} {A : Option Addr} {m c : Nat} (ht : P.underlying t = some (.slice (P.elem t))) (hop : o.op = .call { callee := .builtin .len, args := #[x], argTypes := #[t] }) (hx : ok0 n x = true) (hd : o.dst = some d) (hgo : Go_ n f ops o) (hv : ev0 f x = .slice A m c) (h : wpQuiet P ops C Q rest (fr n (upd f d (.int .i64 m)))) : wpQuiet P ops C Q (o :: rest) (fr n f) := by
  refine qval hgo hd (fun w _ => ?_) h
  have hE : (fr n f).eval x = .slice A m c := by rw [ev_ hx, hv]
  revert hE; generalize (fr n f).eval = E; intro hE
  unfold execOp; simp only [hop]
  simp [resolve, invoke, builtin, hE, go_sem, run_len_slice (h := ht), goInt]
theorem ltq {x : Operand} {t : TypeId} {s : ByteArray} (ht : P.underlying t = some .string) (hop : o.op = .call { callee := .builtin .len, args := #[x], argTypes := #[t] }) (hx : ok0 n x = true) (hd : o.dst = some d) (hgo : Go_ n f ops o) (hv : ev0 f x = .string s) (h : wpQuiet P ops C Q rest (fr n (upd f d (.int .i64 s.size)))) : wpQuiet P ops C Q (o :: rest) (fr n f) := by
  refine qval hgo hd (fun w _ => ?_) h
  have hE : (fr n f).eval x = .string s := by rw [ev_ hx, hv]
  revert hE; generalize (fr n f).eval = E; intro hE
  unfold execOp; simp only [hop]
  simp [resolve, invoke, builtin, hE, go_sem, run_len_string (h := ht), goInt]
theorem pkq {c x y : Operand} {b : Bool} {v : Value} (hop : o.op = .pick c x y) (hk : ok0 n c = true) (hx : ok0 n x = true) (hy : ok0 n y = true) (hd : o.dst = some d) (hgo : Go_ n f ops o) (hc : ev0 f c = .bool b) (hv : (bif b then ev0 f x else ev0 f y) = v) (h : wpQuiet P ops C Q rest (fr n (upd f d v))) : wpQuiet P ops C Q (o :: rest) (fr n f) := by
  refine qval hgo hd (fun w _ => ?_) h
  unfold execOp; simp only [hop]; rw [ev_ hk, ev_ hx, ev_ hy, hc]
  subst hv
  cases b <;> simp [asBool, go_sem]
theorem ixq {x i : Operand} {t : TypeId} {k : IntKind} {A : Option Addr} {ad : Addr} {m c : Nat} {q : Int} (ht : P.underlying t = some (.slice (P.elem t))) (hs : (P.info? (P.elem t)).map (·.size) = some 1) (hop : o.op = .indexAddr t x i) (hx : ok0 n x = true) (hy : ok0 n i = true) (hd : o.dst = some d) (hgo : Go_ n f ops o) (hv : ev0 f x = .slice A m c) (hi : ev0 f i = .int k q) (eA : A = some ad) (hq : 0 ≤ q ∧ q < m) (h : wpQuiet P ops C Q rest (fr n (upd f d (.pointer (some (ad.add q.toNat)))))) : wpQuiet P ops C Q (o :: rest) (fr n f) := by
  subst eA
  obtain ⟨h0, h1⟩ := hq
  refine qval hgo hd (fun w _ => ?_) h
  unfold execOp; simp only [hop]; rw [ev_ hx, ev_ hy, hv, hi]
  have e := size_of (w := w) hs
  unfold Program.elem at e
  simp [go_sem, run_indexAt_slice (h := ht), h0, h1, e]
theorem ldq {p : Operand} {T : TypeId} {a : Addr} {v : Value} (hop : o.op = .load T p) (hx : ok0 n p = true) (hd : o.dst = some d) (hgo : Go_ n f ops o) (hv : ev0 f p = .pointer (some a)) (hr : ∀ w, C w → (Instr.loadAt T (.pointer (some a))).run P w = .ok v w) (h : wpQuiet P ops C Q rest (fr n (upd f d v))) : wpQuiet P ops C Q (o :: rest) (fr n f) := by
  refine qval hgo hd (fun w hw => ?_) h
  have hr := hr w hw
  unfold execOp; simp only [hop]; rw [ev_ hx, hv]
  revert hr; generalize Instr.loadAt T (.pointer (some a)) = L; intro hr
  simp [go_sem, hr]
theorem clq {g : Nat} {fn : Func} {as : Array Operand} {ts : Array TypeId} {args : List Value} {v : Value} (hf : P.funcs[g]? = some fn) (hname : (fn.name == "runtime.NumGoroutine") = false) (hb : fn.body.isSome = true) (hop : o.op = .call { callee := .value (.func g), args := as, argTypes := ts }) (hx : as.toList.all (ok0 n) = true) (hd : o.dst = some d) (hgo : Go_ n f ops o) (hargs : as.toList.map (ev0 f) = args) (hc : ∀ w, C w → Calls P g args.toArray w fun e w' => e = .returned v ∧ C w') (h : wpQuiet P ops C Q rest (fr n (upd f d v))) : wpQuiet P ops C Q (o :: rest) (fr n f) := by
  have ha : as.map (fr n f).eval = args.toArray := by
    apply Array.toList_inj.1
    rw [Array.toList_map, ← hargs]
    exact List.map_congr_left (fun x hx' => ev_ (List.all_eq_true.1 hx x hx'))
  unfold wpQuiet
  rw [if_pos (show Region.wanted o (yielded ops (fr n f).tmps) = true from hgo)]
  refine ⟨v, fun w hw => ?_, ?_⟩
  · have he := enters_ hf hname hb args.toArray w
    have hrun : (execOp (fr n f).eval o).run P w = .ok (.enter g args.toArray) w := by
      unfold execOp
      simp [hop, resolve, Deferred.ofValue, invoke, ev_ (n := n) (f := f) (x := .func g) rfl, ev0, ha, he]
    unfold Oper.quietAt; rw [hrun]; exact ⟨rfl, hc w hw⟩
  · rw [hd, put_]; exact h
theorem cutq {l : List Oper} (k : Nat) (M : (Nat → Value) → (Nat → Value) → Prop) (h1 : wpQuiet P ops C (fun a => ∃ g, a = fr n g ∧ M f g) (l.take k) (fr n f)) (h2 : ∀ g, M f g → wpQuiet P ops C Q (l.drop k) (fr n g)) : wpQuiet P ops C Q l (fr n f) := by
  have key : ∀ (l1 l2 : List Oper) (K : Act → Prop) (a : Act), (∀ a, K a → wpQuiet P ops C Q l2 a) → wpQuiet P ops C K l1 a → wpQuiet P ops C Q (l1 ++ l2) a := by
    intro l1 l2 K
    induction l1 with
    | nil => intro a hK h; exact hK a h
    | cons o l ih =>
      intro a hK h
      rw [List.cons_append]
      unfold wpQuiet at h ⊢
      by_cases c : Region.wanted o (yielded ops a.tmps) = true
      · rw [if_pos c] at h ⊢; exact Oper.quiet_mono (fun a => ih a hK) h
      · rw [if_neg c] at h ⊢; exact ih _ hK h
  rw [← List.take_append_drop k l]
  exact key _ _ _ _ (fun a ⟨g, e, hm⟩ => by subst e; exact h2 g hm) h1
theorem startq {id : Nat} {Q : Exit → Act → World → Prop} {a : Act} {w : World} {l : List Oper} (hm : P.follows .mixedOrders = true) (hB : Region.lexB .any l.toArray = true)
    (h : wpQuiet P l.toArray (fun w' => Below w.heap.size w w') (fun a' => ∀ w', Below w.heap.size w w' → Q .normal a' w') l a) : (Code.region id l.toArray true).wp P Q a w :=
  wp_region_quiet (C := fun w' => Below w.heap.size w w') hm hB (below_drew (Below.refl _ _)) (by simpa using h)
end quiet
theorem at_int_on {w : World} {A : Option Addr} {n : Nat} {k : IntKind} {xs : List Int} (h : On w fun x => (Kd.int k).C x A n xs) (i : Int) (h0 : 0 ≤ i) (h1 : i < n) : ∃ ad, A = some ad ∧ On w fun x => x.cell? (ad.add i.toNat) = some (.int k (rd xs i)) := by
  obtain ⟨ad, e, _⟩ := Kd.at_int h.now i h0 h1
  refine ⟨ad, e, fun x b => ?_⟩
  obtain ⟨ad', e', hc⟩ := Kd.at_int (h x b) i h0 h1
  rw [e] at e'; cases e'; exact hc
theorem at_bool_on {w : World} {A : Option Addr} {n : Nat} {xs : List Bool} (h : On w fun x => Kd.bool.C x A n xs) (i : Int) (h0 : 0 ≤ i) (h1 : i < n) : ∃ ad, A = some ad ∧ On w fun x => x.cell? (ad.add i.toNat) = some (.bool (rdOf false xs i)) := by
  obtain ⟨ad, e, _⟩ := Kd.at_bool h.now i h0 h1
  refine ⟨ad, e, fun x b => ?_⟩
  obtain ⟨ad', e', hc⟩ := Kd.at_bool (h x b) i h0 h1
  rw [e] at e'; cases e'; exact hc
theorem at_string_on {w : World} {A : Option Addr} {n : Nat} {xs : List ByteArray} (h : On w fun x => Kd.string.C x A n xs) (i : Int) (h0 : 0 ≤ i) (h1 : i < n) : ∃ ad, A = some ad ∧ On w fun x => x.cell? (ad.add i.toNat) = some (.string (rdOf ByteArray.empty xs i)) := by
  obtain ⟨ad, e, _⟩ := Kd.at_string h.now i h0 h1
  refine ⟨ad, e, fun x b => ?_⟩
  obtain ⟨ad', e', hc⟩ := Kd.at_string (h x b) i h0 h1
  rw [e] at e'; cases e'; exact hc
/-! ### Rows: parts of a row, a new row, a row that grows -/
section rows
variable {P : Program} {ops : Array Oper} {Q : Exit → Act → World → Prop} {rest : List Oper} {o : Oper} {f : Nat → Value} {n d : Nat} {md : Region.Mode} {S : World → Prop} {ds : List Nat}
theorem run_mv {x : Operand} {v : Value} (hop : o.op = .move x) (hx : ok0 n x = true) (hv : ev0 f x = v) (w : World) : (execOp (fr n f).eval o).run P w = .ok (.value v) w := by
  subst hv; unfold execOp; simp only [hop]; rw [ev_ hx]; rfl
theorem run_as {x : Operand} {v : Value} (hop : o.op = .assign x) (hx : ok0 n x = true) (hv : ev0 f x = v) (w : World) : (execOp (fr n f).eval o).run P w = .ok (.value v) w := by
  subst hv; unfold execOp; simp only [hop]; rw [ev_ hx]; rfl
theorem run_bi {x y : Operand} {T T2 : TypeId} {k : IntKind} {a b : Int} {v : Value} {op : BinOp} (hop : o.op = .binOp op T x y T2) (hx : ok0 n x = true) (hy : ok0 n y = true) (hv : ev0 f x = .int k a) (hu : ev0 f y = .int k b) (hr : ∀ w : World, (binOp op T (.int k a) (.int k b)).run P w = .ok v w) (w : World) : (execOp (fr n f).eval o).run P w = .ok (.value v) w := by
  unfold execOp; simp only [hop]; rw [ev_ hx, ev_ hy, hv, hu]
  have e : (eqGuard op T x y (.int k a) (.int k b)).run P w = .ok () w := by cases op <;> simp [eqGuard, go_sem]
  simp [go_sem, e, hr]
theorem run_hi {x y : Operand} {t : TypeId} {A : Option Addr} {α : Type} {l : List α} {c : Nat} {k : IntKind} {q : Int} (ht : P.underlying t = some (.slice (P.elem t))) (hs : (P.info? (P.elem t)).map (·.size) = some 1) (hop : o.op = .slice t x none (some y) none) (hx : ok0 n x = true) (hy : ok0 n y = true) (hv : ev0 f x = .slice A l.length c) (hi : ev0 f y = .int k q) (hc : l.length ≤ c) (hq : 0 ≤ q ∧ q < ((l.length + 1 : Nat) : Int)) (w : World) : (execOp (fr n f).eval o).run P w = .ok (.value (.slice A (l.take q.toNat).length c)) w := by
  obtain ⟨h0, h1⟩ := hq
  have e1 : (l.take q.toNat).length = q.toNat := by simp; omega
  rw [e1]
  have hE : (fr n f).eval x = .slice A l.length c := by rw [ev_ hx, hv]
  have hF : (fr n f).eval y = .int k q := by rw [ev_ hy, hi]
  revert hE hF; generalize (fr n f).eval = E; intro hE hF
  have h2 : q ≤ (c : Int) := by omega
  obtain ⟨G, hG⟩ : ∃ G, P.elem t = G := ⟨_, rfl⟩
  rw [hG] at ht hs
  unfold execOp; simp only [hop]
  simp [hE, hF, Instr.sliceAt, Instr.slice, Instr.sliceBounds, go_sem, run_underlying ht, ht, h0, h2, size_of (w := w) hs]
theorem run_lo {x y : Operand} {t : TypeId} {A : Option Addr} {α : Type} {l : List α} {c : Nat} {k : IntKind} {q : Int} (ht : P.underlying t = some (.slice (P.elem t))) (hs : (P.info? (P.elem t)).map (·.size) = some 1) (hop : o.op = .slice t x (some y) none none) (hx : ok0 n x = true) (hy : ok0 n y = true) (hv : ev0 f x = .slice A l.length c) (hi : ev0 f y = .int k q) (hq : 0 ≤ q ∧ q < ((l.length + 1 : Nat) : Int)) (w : World) : (execOp (fr n f).eval o).run P w = .ok (.value (.slice (if c = q.toNat then A else A.map (·.add (q.toNat * 1))) (l.drop q.toNat).length (c - q.toNat))) w := by
  obtain ⟨h0, h1⟩ := hq
  have hE : (fr n f).eval x = .slice A l.length c := by rw [ev_ hx, hv]
  have hF : (fr n f).eval y = .int k q := by rw [ev_ hy, hi]
  revert hE hF; generalize (fr n f).eval = E; intro hE hF
  have h2 : q ≤ (l.length : Int) := by omega
  obtain ⟨G, hG⟩ : ∃ G, P.elem t = G := ⟨_, rfl⟩
  rw [hG] at ht hs
  unfold execOp; simp only [hop]
  simp [hE, hF, Instr.sliceAt, Instr.slice, Instr.sliceBounds, go_sem, run_underlying ht, ht, h0, h2, size_of (w := w) hs]
theorem vr_ {v : Value} {w : World} (hgo : Go_ n f ops o) (hd : o.dst = some d) (hr : ∀ w, (execOp (fr n f).eval o).run P w = .ok (.value v) w) (h : wpList P ops Q rest (fr n (upd f d v)) w) : wpList P ops Q (o :: rest) (fr n f) w := val hgo hd (hr w) h
theorem on_take {w : World} {A : Option Addr} {l : List Int} {k : IntKind} (m : Nat) (h : On w fun x => (Kd.int k).C x A l.length l) (hm : m ≤ l.length) : On w fun x => (Kd.int k).C x A (l.take m).length (l.take m) := fun x b => Kd.C_take (h x b) hm
theorem on_drop {w : World} {A : Option Addr} {l : List Int} {k : IntKind} (m c : Nat) (h : On w fun x => (Kd.int k).C x A l.length l) (hm : m ≤ l.length) (hc : l.length ≤ c) : On w fun x => (Kd.int k).C x (if c = m then A else A.map (·.add (m * 1))) (l.drop m).length (l.drop m) := fun x b => Kd.C_drop (h x b) hm hc
theorem take_le {α : Type} {l : List α} {c : Nat} (m : Nat) (h : l.length ≤ c) : (l.take m).length ≤ c := by simp; omega
theorem drop_le {α : Type} {l : List α} {c : Nat} (m : Nat) (h : l.length ≤ c) : (l.drop m).length ≤ c - m := by simp; omega
theorem bnd1 {q : Int} {m : Nat} (h : (decide (0 ≤ q) && decide (q ≤ (m : Int))) = true) : 0 ≤ q ∧ q < ((m + 1 : Nat) : Int) := by simp at h ⊢; omega
theorem bnd2 {q : Int} {m : Nat} (h : 0 ≤ q ∧ q < ((m + 1 : Nat) : Int)) : q.toNat ≤ m := by omega
def OwnOn (w : World) (e b : Nat) (v : Value) (xs : List Int) : Prop := On w fun x => (Kd.int .i64).R e x b (fun _ => True) v xs
theorem own_nil (w : World) (e b : Nat) : OwnOn w e b (.slice none 0 0) [] := fun _ _ => Kd.R_nil _ _ _ _ _
theorem own_of {w : World} {e b : Nat} {v : Value} {xs : List Int} (h : (Kd.int .i64).R e w b (fun _ => True) v xs) : OwnOn w e b v xs := fun _ bl => Kd.R_below h bl
/-- A row of one's own grows by a row. -/
theorem ap_ {s x : Operand} {t e : TypeId} {v : Value} {xs ys : List Int} {A : Option Addr} {c : Nat} {wb W : World} (ht : P.underlying t = some (.slice e)) (hinfo : (P.info? e).map (fun i => (i.zero, i.size, i.bytes)) = some (some (.int .i64 0), 1, 8)) (ho : o.op = .call { callee := .builtin .append, args := #[s, x], argTypes := #[t, t] }) (hgd : o.guard = none) (hs : ok0 n s = true) (hx : ok0 n x = true) (hd : o.dst = some d) (hv : ev0 f s = v) (hu : ev0 f x = .slice A ys.length c)
    (HO : OwnOn W e wb.heap.size v xs) (HR : On W fun x => (Kd.int .i64).C x A ys.length ys) (HB : Below wb.heap.size wb W) (hl : xs.length + ys.length < 17592186044416)
    (h : ∀ A' c' w1, xs.length + ys.length ≤ c' → OwnOn w1 e wb.heap.size (.slice A' (xs ++ ys).length c') (xs ++ ys) → (On w1 fun x => (Kd.int .i64).C x A' (xs ++ ys).length (xs ++ ys)) → Below wb.heap.size wb w1 → wpList P ops Q rest (fr n (upd f d (.slice A' (xs ++ ys).length c'))) w1) : wpList P ops Q (o :: rest) (fr n f) W := by
  refine Kd.R_append_rows (Kd.int .i64) (w0 := wb) wb.heap.size hgd s x t e (.int .i64 0) 8 ho ht hinfo rfl (by decide) (by omega) v xs ys A ys.length c (fun _ => True) (fun _ => False) ((ev_ hs).trans hv) ((ev_ hx).trans hu) HO.now HR.now (fun _ _ h => h) (fun _ h => h.elim) (fun _ _ => trivial) HB (below_size HB) (by omega) ?_
  intro v1 w1 ho1 hb _ _
  obtain ⟨A', c', rfl, hc', hC⟩ := Kd.R_reads ho1
  rw [hd, put_]
  exact h A' c' w1 (by simpa using hc') (own_of ho1) (on_C hC) hb
theorem app_le {xs ys : List Int} {c : Nat} (h : xs.length + ys.length ≤ c) : (xs ++ ys).length ≤ c := by simpa using h
theorem startL {id m : Nat} {a : Act} {w : World} (l : Array Bool) (hm : P.follows .mixedOrders = true) (hn : ops.size = m) (hl : Array.replicate m false = l) (h : ∀ w1, Below w.heap.size w w1 → wpAnyLast P .any ops Q (fun _ => True) [] m l a w1) : (Code.region id ops true).wp P Q a w := start_ l hm hn hl trivial (fun _ => h _ (below_drew (Below.refl _ _)))
section free
variable {l : Array Bool} {fuel i : Nat} {w : World}
theorem pu {v : Value} (l' : Array Bool) (hi : ops[i]? = some o) (hN : o.dst = some d) (hc : anyB md ops l l' i = true) (hgo : Go_ n f ops o) (hr : ∀ w, (execOp (fr n f).eval o).run P w = .ok (.value v) w) (hQ : ∀ c a w, Q (.panic c) (a.put o.dst v) w → Q (.panic c) a w) (h : wpAnyLast P md ops Q S ds fuel l' (fr n (upd f d v)) w) : wpAnyLast P md ops Q S ds (fuel + 1) l (fr n f) w :=
  pure_ l' hi hN hc hQ (Or.inl ⟨hgo, hr⟩) put_ h
theorem bu1 {t e : TypeId} (l' : Array Bool) (hi : ops[i]? = some o) (hN : o.dst = some d) (hc : readyB md ops l l' i = true) (hds : i ∉ ds) (hgo : Go_ n f ops o) (hS : ∀ w, S w) (ht : P.underlying t = some (.slice (P.elem t))) (he : P.elem t = e) (hs : (P.info? (P.elem t)).map (fun i => (i.zero, i.size)) = some (some (.int .i64 0), 1)) (ho : o.op = .buildSlice t 0 #[])
    (h : ∀ A' c' w1, OwnOn w1 e w.heap.size (.slice A' ([] : List Int).length c') [] → (On w1 fun x => (Kd.int .i64).C x A' ([] : List Int).length []) → Below w.heap.size w w1 → wpAnyLast P md ops Q S ds fuel l' (fr n (upd f d (.slice A' ([] : List Int).length c'))) w1) : wpAnyLast P md ops Q S ds (fuel + 1) l (fr n f) w := by
  subst he
  refine one_ l' hi hN hc hds (fun K hK => ?_)
  have hrun : (execOp (fr n f).eval o).run P w = .ok (.value (.slice (some ⟨w.heap.size, 0, none⟩) ([] : List Int).length ([] : List Int).length)) (w.alloc (.cells ([] : List Value).toArray (P.elem t))) := by
    have hs1 : (P.info? (P.elem t)).map (·.size) = some 1 := by
      obtain ⟨i0, h1, h2⟩ := Option.map_eq_some_iff.1 hs
      rw [h1]; simp only [Prod.mk.injEq] at h2; simp [h2.2]
    clear h
    obtain ⟨G, hG⟩ : ∃ G, P.elem t = G := ⟨_, rfl⟩
    rw [hG] at ht hs1 ⊢
    unfold execOp; simp only [ho]
    simp [Instr.buildSlice, go_sem, run_underlying ht, ht, size_of (w := w) hs1]
  have key := Kd.R_lit_step (P := P) (ops := ops) (o := o) (a := fr n f) (Q := Q) (Kc := K) (Kd.int .i64) (w0 := w) w.heap.size (P.elem t) hgo hN (xs := ([] : List Int)) (inner := []) (ok := fun _ => True) (okp := fun _ => True) hrun (Reps.none _ _) (fun _ hk => hk) trivial (Below.refl _ _) (Nat.le_refl _) (by simp) (fun v1 w1 ho1 hb _ _ => by
    obtain ⟨A', c', rfl, hc', hC⟩ := Kd.R_reads ho1
    rw [hN, put_]
    exact hK.out _ _ (hS _) (fun _ => h A' c' w1 (own_of ho1) (on_C hC) hb))
  rw [hN] at key
  exact key
theorem ap1 {s x : Operand} {t e : TypeId} {v : Value} {xs ys : List Int} {A : Option Addr} {c : Nat} {wb W : World} (l' : Array Bool) (hi : ops[i]? = some o) (hN : o.dst = some d) (hc : readyB md ops l l' i = true) (hds : i ∉ ds) (hgo : Go_ n f ops o) (hS : ∀ w, S w) (ht : P.underlying t = some (.slice e)) (hinfo : (P.info? e).map (fun i => (i.zero, i.size, i.bytes)) = some (some (.int .i64 0), 1, 8)) (ho : o.op = .call { callee := .builtin .append, args := #[s, x], argTypes := #[t, t] }) (hs : ok0 n s = true) (hx : ok0 n x = true) (hv : ev0 f s = v) (hu : ev0 f x = .slice A ys.length c)
    (HO : OwnOn W e wb.heap.size v xs) (HR : On W fun x => (Kd.int .i64).C x A ys.length ys) (HB : Below wb.heap.size wb W) (hl : xs.length + ys.length < 17592186044416)
    (h : ∀ A' c' w1, xs.length + ys.length ≤ c' → OwnOn w1 e wb.heap.size (.slice A' (xs ++ ys).length c') (xs ++ ys) → (On w1 fun x => (Kd.int .i64).C x A' (xs ++ ys).length (xs ++ ys)) → Below wb.heap.size wb w1 → wpAnyLast P md ops Q S ds fuel l' (fr n (upd f d (.slice A' (xs ++ ys).length c'))) w1) : wpAnyLast P md ops Q S ds (fuel + 1) l (fr n f) W := by
  refine one_ l' hi hN hc hds (fun K hK => ?_)
  have key := Kd.R_append_rows_step (P := P) (ops := ops) (o := o) (a := fr n f) (Q := Q) (Kc := K) (Kd.int .i64) (w0 := wb) wb.heap.size hgo s x t e (.int .i64 0) 8 ho ht hinfo rfl (by decide) (by omega) v xs ys A ys.length c (fun _ => True) (fun _ => False) ((ev_ hs).trans hv) ((ev_ hx).trans hu) HO.now HR.now (fun _ _ h => h) (fun _ h => h.elim) (fun _ _ => trivial) HB (below_size HB) (by omega) (fun v1 w1 ho1 hb _ _ => by
    obtain ⟨A', c', rfl, hc', hC⟩ := Kd.R_reads ho1
    rw [hN, put_]
    exact hK.out _ _ (hS _) (fun _ => h A' c' w1 (by simpa using hc') (own_of ho1) (on_C hC) hb))
  rw [hN] at key
  exact key
end free
end rows
attribute [irreducible] fr
end Go.Proofs.Ythklbgllgeigdaa.Lw
