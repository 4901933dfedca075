/- The walk's own calculus, part two: rules for single operations that read and compute. -/
import Derived.Test.YtnmhhelcaibdoaaSl1
import Derived.Laws.Sem
import Derived.WalkKit
namespace Go.Proofs.Ytnmhhelcaibdoaa.Sl
open Go Go.RowKit
set_option linter.unusedVariables false
set_option linter.unusedSimpArgs false

theorem Fr.yields {ds : List Deferred} {n : Nat} {a : Act} {f : Fm} (h : Fr ds n a f) (ops : Array Oper) : yielded ops a.tmps = yieldB f ops := by
  funext i
  unfold yielded yieldB
  cases (ops[i]?).bind (·.dst) with
  | none => rfl
  | some d =>
    have hv := h.val d
    simp only [Option.bind_some]
    rw [← hv, Array.getD_eq_getD_getElem?]
    cases a.tmps[d]? with
    | none => rfl
    | some x => cases x <;> rfl


section
variable {P : Program} {n : Nat} {w0 : World} {q : Mo} {ops : Array Oper} {Q : Po} {rest : List Oper} {f : Fm} {L : Own}

theorem semAt_val {r : Option Nat} {e : Operand → Value} {o : Oper} {w w' : World} {v : Value} (h : (execOp e o).run P w = .ok (.value v) w') : (o.semAt r e).run P w = .ok (.value v) w' := by
  rw [Oper.semAt_eq]
  · exact h
  · intro c hc
    unfold execOp at h
    rw [hc] at h
    simp only [Sem.run_bind] at h
    generalize (resolve e c o.type).run P w = x at h
    cases x <;> simp at h
theorem semAt_skip {r : Option Nat} {e : Operand → Value} {o : Oper} {w w' : World} (h : (execOp e o).run P w = .ok .skip w') : (o.semAt r e).run P w = .ok .skip w' := by
  rw [Oper.semAt_eq]
  · exact h
  · intro c hc
    unfold execOp at h
    rw [hc] at h
    simp only [Sem.run_bind] at h
    generalize (resolve e c o.type).run P w = x at h
    cases x <;> simp at h
theorem w_nil (h : Q .normal f L) : W P n w0 q ops Q [] f L := by
  cases q with
  | lex => exact ⟨fun r ds a w ha hw => wpListIn_nil ⟨f, L, ha, hw, h⟩, fun ds a w ha hw => wpList_nil ⟨f, L, ha, hw, h⟩⟩
  | quiet => exact fun ds a ha => wpQuiet_nil ⟨f, ha, h⟩
  | take => exact h
  | yld => exact fun ds a w ha hw => wpListIn_nil ⟨f, L, ha, hw, h⟩
theorem ev_in {o : Oper} {v : Value} (hw : Region.wanted o (yieldB f ops) = true) (h : EvIn P (fun w => Mem w0 w L) f o v) {r : Option Nat} {ds : List Deferred} {a : Act} {w : World} (ha : Fr ds n a f) (hM : Mem w0 w L)
    (k : ∀ a, Fr ds n a (putf n f o.dst v) → wpListIn (Fw r) 0 P ops (QA n w0 ds Q) rest a w) : wpListIn (Fw r) 0 P ops (QA n w0 ds Q) (o :: rest) a w := by
  refine wpListIn_step fun K hK => ?_
  rw [ha.yields, if_pos hw]
  refine ⟨fun _ _ => trivial, ?_⟩
  rw [ha.eval_fun, semAt_val (h w hM)]
  exact hK _ _ (k _ (ha.put _ _))
theorem w_ev {o : Oper} {v : Value} (hw : Region.wanted o (yieldB f ops) = true) (h : EvIn P (fun w => Mem w0 w L) f o v)
    (k : W P n w0 q ops Q rest (putf n f o.dst v) L) : W P n w0 q ops Q (o :: rest) f L := by
  cases q with
  | lex =>
    refine ⟨fun r ds a w ha hM => ev_in hw h ha hM fun a' ha' => k.1 r ds a' w ha' hM, fun ds a w ha hM => ?_⟩
    refine wpList_step fun K hK => ?_
    rw [ha.yields, if_pos hw]
    show o.upon P a K _ _
    rw [ha.eval_fun, h w hM]
    exact hK _ _ (k.2 _ _ _ (ha.put _ _) hM)
  | quiet =>
    intro ds a ha
    unfold wpQuiet
    rw [ha.yields, if_pos hw]
    refine ⟨v, fun w hM => ?_, k _ _ (ha.put _ _)⟩
    show Oper.quietUpon P _ w v _
    rw [ha.eval_fun, h w hM]
    exact ⟨rfl, rfl⟩
  | take => exact .inl ⟨hw, v, h, k⟩
  | yld => exact fun ds a w ha hM => ev_in hw h ha hM fun a' ha' => k ds a' w ha' hM
theorem skip_in {o : Oper} (hw : Region.wanted o (yieldB f ops) = false) {r : Option Nat} {ds : List Deferred} {a : Act} {w : World} (ha : Fr ds n a f)
    (k : ∀ a, Fr ds n a (putf n f o.dst undef) → wpListIn (Fw r) 0 P ops (QA n w0 ds Q) rest a w) : wpListIn (Fw r) 0 P ops (QA n w0 ds Q) (o :: rest) a w := by
  refine wpListIn_step fun K hK => ?_
  rw [ha.yields, if_neg (by simp [hw])]
  exact ⟨fun _ _ => trivial, hK _ _ (k _ (ha.put _ _))⟩
theorem w_skip {o : Oper} (hw : Region.wanted o (yieldB f ops) = false) (k : W P n w0 q ops Q rest (putf n f o.dst undef) L) : W P n w0 q ops Q (o :: rest) f L := by
  cases q with
  | lex =>
    refine ⟨fun r ds a w ha hM => skip_in hw ha fun a' ha' => k.1 r ds a' w ha' hM, fun ds a w ha hM => ?_⟩
    refine wpList_step fun K hK => ?_
    rw [ha.yields, if_neg (by simp [hw])]
    exact hK _ _ (k.2 _ _ _ (ha.put _ _) hM)
  | quiet =>
    intro ds a ha
    unfold wpQuiet
    rw [ha.yields, if_neg (by simp [hw])]
    exact k _ _ (ha.put _ _)
  | take => exact .inr ⟨hw, k⟩
  | yld => exact fun ds a w ha hM => skip_in hw ha fun a' ha' => k ds a' w ha' hM
theorem upd_self {d : Nat} {v : Value} (hv : f d = v) : upd n f d v = f := by
  funext j
  unfold upd
  cases hj : Nat.beq j d with
  | false => rfl
  | true =>
    have := Nat.eq_of_beq_eq_true hj
    subst this
    simp only [cond_true]
    cases Nat.blt j n <;> simp [hv]
theorem w_cases (d : Nat) {b : Bool} (hv : f d = .bool b) (h1 : b = true → W P n w0 q ops Q rest (upd n f d (.bool true)) L) (h2 : b = false → W P n w0 q ops Q rest (upd n f d (.bool false)) L) :
    W P n w0 q ops Q rest f L := by
  cases b with
  | true => have := h1 rfl; rwa [upd_self hv] at this
  | false => have := h2 rfl; rwa [upd_self hv] at this
theorem w_cases_d (d : Nat) {p : Prop} [Decidable p] (hv : f d = .bool (decide p)) (h1 : p → W P n w0 q ops Q rest (upd n f d (.bool true)) L) (h2 : ¬ p → W P n w0 q ops Q rest (upd n f d (.bool false)) L) :
    W P n w0 q ops Q rest f L :=
  w_cases d hv (fun h => h1 (of_decide_eq_true h)) (fun h => h2 (of_decide_eq_false h))

section ops
variable {d ty : Nat} {pos : String} {af : Array Edge} {g : Option (Nat × Bool)}
theorem w_mov {x : Operand} {v : Value} (hw : Region.wanted ⟨some d, .move x, ty, pos, af, g⟩ (yieldB f ops) = true) (hv : ev f x = v) (k : W P n w0 q ops Q rest (upd n f d v) L) :
    W P n w0 q ops Q (⟨some d, .move x, ty, pos, af, g⟩ :: rest) f L :=
  w_ev hw (v := v) (fun w _ => by simp [execOp, hv]) k
theorem w_asg {x : Operand} {v : Value} (hw : Region.wanted ⟨some d, .assign x, ty, pos, af, g⟩ (yieldB f ops) = true) (hv : ev f x = v) (k : W P n w0 q ops Q rest (upd n f d v) L) :
    W P n w0 q ops Q (⟨some d, .assign x, ty, pos, af, g⟩ :: rest) f L :=
  w_ev hw (v := v) (fun w _ => by simp [execOp, hv]) k
theorem w_pick_t {c x y : Operand} {v : Value} (hw : Region.wanted ⟨some d, .pick c x y, ty, pos, af, g⟩ (yieldB f ops) = true) (hc : ev f c = .bool true) (hv : ev f x = v) (k : W P n w0 q ops Q rest (upd n f d v) L) :
    W P n w0 q ops Q (⟨some d, .pick c x y, ty, pos, af, g⟩ :: rest) f L :=
  w_ev hw (v := v) (fun w _ => by simp [execOp, hc, hv, asBool]) k
theorem w_pick_f {c x y : Operand} {v : Value} (hw : Region.wanted ⟨some d, .pick c x y, ty, pos, af, g⟩ (yieldB f ops) = true) (hc : ev f c = .bool false) (hv : ev f y = v) (k : W P n w0 q ops Q rest (upd n f d v) L) :
    W P n w0 q ops Q (⟨some d, .pick c x y, ty, pos, af, g⟩ :: rest) f L :=
  w_ev hw (v := v) (fun w _ => by simp [execOp, hc, hv, asBool]) k
theorem w_fun {fn : Fn} {xs ys : Array Operand} {v : Value} (hw : Region.wanted ⟨some d, .makeFunc fn xs ys, ty, pos, af, g⟩ (yieldB f ops) = true) (hv : Value.func fn (xs.map (ev f)) (ys.map (ev f)) = v) (k : W P n w0 q ops Q rest (upd n f d v) L) :
    W P n w0 q ops Q (⟨some d, .makeFunc fn xs ys, ty, pos, af, g⟩ :: rest) f L :=
  w_ev hw (v := v) (fun w _ => by simp [execOp, ← hv, Instr.makeFunc]) k
theorem w_nilck {x : Operand} {ad : Addr} (hw : Region.wanted ⟨some d, .nilCheck x, ty, pos, af, g⟩ (yieldB f ops) = true) (hx : ev f x = .pointer (some ad)) (k : W P n w0 q ops Q rest (upd n f d (.pointer (some ad))) L) :
    W P n w0 q ops Q (⟨some d, .nilCheck x, ty, pos, af, g⟩ :: rest) f L :=
  w_ev hw (v := .pointer (some ad)) (fun w _ => by simp [execOp, hx]) k
theorem w_ext {x : Operand} {i : Nat} {vs : Array Value} {v : Value} (hw : Region.wanted ⟨some d, .extract x i, ty, pos, af, g⟩ (yieldB f ops) = true) (hx : ev f x = .tuple vs) (hv : vs[i]? = some v) (k : W P n w0 q ops Q rest (upd n f d v) L) :
    W P n w0 q ops Q (⟨some d, .extract x i, ty, pos, af, g⟩ :: rest) f L :=
  w_ev hw (v := v) (fun w _ => by simp [execOp, hx, Instr.extract, hv]) k

/-! Field addresses: 'FA P T i k': field i of struct type T stands k cells from its begin. -/
def FA (P : Program) (T i k : Nat) : Prop := ∀ (a : Addr) (w : World), (Instr.fieldAt T (.pointer (some a)) i).run P w = .ok (.pointer (some (a.add k))) w
theorem FA.mk {T i k s : Nat} {fs : Array Field} {fl : Field} (h : P.underlying T = some (.struct fs)) (hf : fs[i]? = some fl) (ho : fl.offset = k) (hs : (P.info? fl.type).map (·.size) = some (s + 1)) : FA P T i k := by
  intro a w
  cases hi : P.info? fl.type with
  | none => simp [hi] at hs
  | some inf =>
    simp [hi] at hs
    simp [Instr.fieldAt, underlying, program, Sem.run, h, hf, Instr.sureAddr, fieldPlace, sizeOf, typeInfo, hi, hs, ho]
theorem addr_add (b o k : Nat) : (⟨b, o, none⟩ : Addr).add k = ⟨b, o + k, none⟩ := by
  unfold Addr.add
  split
  · rename_i h; subst h; rfl
  · rfl
theorem w_fa {T i k : Nat} {x : Operand} {b o : Nat} (hw : Region.wanted ⟨some d, .fieldAddr T x i, ty, pos, af, g⟩ (yieldB f ops) = true) (hx : ev f x = .pointer (some ⟨b, o, none⟩)) (hF : FA P T i k)
    (kk : W P n w0 q ops Q rest (upd n f d (.pointer (some ⟨b, o + k, none⟩))) L) : W P n w0 q ops Q (⟨some d, .fieldAddr T x i, ty, pos, af, g⟩ :: rest) f L :=
  w_ev hw (v := .pointer (some ⟨b, o + k, none⟩)) (fun w _ => by simp [execOp, hx, hF ⟨b, o, none⟩ w, addr_add]) kk

/-! Loads: 'L1 P T': a variable of type T is one cell. 'LA P T m': an aggregate of m cells. -/
def L1 (P : Program) (T : Nat) : Prop := ∀ (a : Addr) (w : World) (v : Value), w.cell? a = some v → (loadVar T a).run P w = .ok v w
theorem L1.mk {T : Nat} {ds : TypeDesc} (h : P.underlying T = some ds) (hd : (match ds with | .struct _ | .array _ _ => true | _ => false) = false) : L1 P T := by
  intro a w v hc
  have : (isAgg T).run P w = .ok false w := by
    simp only [isAgg, underlying, program, Sem.run_bind, Sem.run, Result.andThen_ok, h, Sem.run_pure]
    cases ds <;> simp at hd ⊢
  simp only [loadVar, Sem.run_bind, this, Result.andThen_ok, Bool.false_eq_true, if_false, run_load, hc]
def LA (P : Program) (T m : Nat) : Prop := ∀ (a : Addr) (w : World) (vs : List Value), vs.length = m → (∀ i v, vs[i]? = some v → w.cell? (a.add i) = some v) → (loadVar T a).run P w = .ok (.agg vs.toArray) w
theorem loadCellsFrom_run {w : World} {a : Addr} : ∀ (vs : List Value) (i : Nat) (acc : Array Value), (∀ j v, vs[j]? = some v → w.cell? (a.add (i + j)) = some v) →
    (loadCellsFrom a i vs.length acc).run P w = .ok (acc ++ vs.toArray) w
  | [], i, acc, _ => by simp [loadCellsFrom]
  | v :: vs, i, acc, h => by
    have h0 : w.cell? (a.add i) = some v := h 0 v rfl
    have ih := loadCellsFrom_run vs (i + 1) (acc.push v) (fun j u hu => by have := h (j + 1) u (by simpa using hu); rwa [show i + 1 + j = i + (j + 1) by omega])
    simp only [List.length_cons, loadCellsFrom, Sem.run_bind, run_load, h0, Result.andThen_ok, ih]
    simp
theorem LA.mk {T m : Nat} {ds : TypeDesc} (h : P.underlying T = some ds) (hd : (match ds with | .struct _ | .array _ _ => true | _ => false) = true) (hs : (P.info? T).map (·.size) = some m) : LA P T m := by
  intro a w vs hl hc
  have h1 : (isAgg T).run P w = .ok true w := by
    simp only [isAgg, underlying, program, Sem.run_bind, Sem.run, Result.andThen_ok, h, Sem.run_pure]
    cases ds <;> simp at hd ⊢
  cases hi : P.info? T with
  | none => simp [hi] at hs
  | some inf =>
    simp [hi] at hs
    have h2 : (sizeOf T).run P w = .ok m w := by simp [sizeOf, typeInfo, program, Sem.run, hi, hs]
    have h3 := loadCellsFrom_run (P := P) vs 0 #[] (fun j v hv => by rw [Nat.zero_add]; exact hc j v hv)
    subst hl
    simp only [loadVar, Sem.run_bind, h1, Result.andThen_ok, if_true, h2, loadCells, h3, Sem.run_pure]
    simp
theorem w_ld {T : Nat} {x : Operand} {ad : Addr} {v : Value} (hw : Region.wanted ⟨some d, .load T x, ty, pos, af, g⟩ (yieldB f ops) = true) (hT : L1 P T) (hx : ev f x = .pointer (some ad)) (hc : Rd w0 L ad v)
    (k : W P n w0 q ops Q rest (upd n f d v) L) : W P n w0 q ops Q (⟨some d, .load T x, ty, pos, af, g⟩ :: rest) f L :=
  w_ev hw (v := v) (fun w hM => by simp [execOp, Instr.loadAt, hx, Instr.sureAddr, hT ad w v (hc w hM)]) k
/-- .. of a block of the list. -/
theorem w_ldo {T T' : Nat} {x : Operand} {b o : Nat} {cs : List Value} {v : Value} (hw : Region.wanted ⟨some d, .load T x, ty, pos, af, g⟩ (yieldB f ops) = true) (hT : L1 P T) (hx : ev f x = .pointer (some ⟨b, o, none⟩)) (hb : Has L b (B T' cs)) (hv : cs[o]? = some v)
    (k : W P n w0 q ops Q rest (upd n f d v) L) : W P n w0 q ops Q (⟨some d, .load T x, ty, pos, af, g⟩ :: rest) f L :=
  w_ld hw hT hx (Rd.own hb hv) k
def piece (cs : List Value) (o m : Nat) : List Value := (cs.drop o).take m
theorem w_lda {T m : Nat} {x : Operand} {ad : Addr} {vs : List Value} (hw : Region.wanted ⟨some d, .load T x, ty, pos, af, g⟩ (yieldB f ops) = true) (hT : LA P T m) (hx : ev f x = .pointer (some ad)) (hl : vs.length = m) (hc : ∀ i v, vs[i]? = some v → Rd w0 L (ad.add i) v)
    (k : W P n w0 q ops Q rest (upd n f d (.agg vs.toArray)) L) : W P n w0 q ops Q (⟨some d, .load T x, ty, pos, af, g⟩ :: rest) f L :=
  w_ev hw (v := .agg vs.toArray) (fun w hM => by simp [execOp, Instr.loadAt, hx, Instr.sureAddr, hT ad w vs hl (fun i v hv => hc i v hv w hM)]) k
theorem w_ldao {T T' m : Nat} {x : Operand} {b o : Nat} {cs vs : List Value} (hw : Region.wanted ⟨some d, .load T x, ty, pos, af, g⟩ (yieldB f ops) = true) (hT : LA P T m) (hx : ev f x = .pointer (some ⟨b, o, none⟩)) (hb : Has L b (B T' cs)) (hp : piece cs o m = vs) (hl : vs.length = m)
    (k : W P n w0 q ops Q rest (upd n f d (.agg vs.toArray)) L) : W P n w0 q ops Q (⟨some d, .load T x, ty, pos, af, g⟩ :: rest) f L :=
  w_lda hw hT hx hl (fun i v hv => by
    rw [addr_add]
    refine Rd.own hb ?_
    subst hp
    simp only [piece, List.getElem?_take, List.getElem?_drop] at hv
    split at hv
    · exact hv
    · cases hv) k

/-! An element's address in a slice: 'SZ P T s': the slice type T's elements have s cells. -/
def SZ (P : Program) (T s : Nat) : Prop := ∃ E, P.underlying T = some (.slice E) ∧ (P.info? E).map (·.size) = some s
theorem w_ix {T s : Nat} {x i : Operand} {k : IntKind} {ad : Addr} {len cap : Nat} {j : Int} (hw : Region.wanted ⟨some d, .indexAddr T x i, ty, pos, af, g⟩ (yieldB f ops) = true) (hS : SZ P T s) (hx : ev f x = .slice (some ad) len cap) (hi : ev f i = .int k j)
    (h0 : 0 ≤ j) (h1 : j < len) (kk : W P n w0 q ops Q rest (upd n f d (.pointer (some (ad.add (j.toNat * s))))) L) : W P n w0 q ops Q (⟨some d, .indexAddr T x i, ty, pos, af, g⟩ :: rest) f L :=
  w_ev hw (v := .pointer (some (ad.add (j.toNat * s)))) (fun w _ => by
    obtain ⟨E, hE, hs⟩ := hS
    cases hie : P.info? E with
    | none => simp [hie] at hs
    | some inf =>
      simp [hie] at hs
      simp [execOp, hx, hi, Instr.indexAt, asIntOf, underlying, program, Sem.run, hE, sizeOf, typeInfo, hie, hs, h0, h1]) kk

/-! len -/
theorem w_len {T E : Nat} {x : Operand} {a : Option Addr} {len cap : Nat} (hw : Region.wanted ⟨some d, .call { callee := .builtin .len, args := #[x], argTypes := #[T] }, ty, pos, af, g⟩ (yieldB f ops) = true) (hS : P.underlying T = some (.slice E)) (hx : ev f x = .slice a len cap)
    (kk : W P n w0 q ops Q rest (upd n f d (.int .i64 len)) L) : W P n w0 q ops Q (⟨some d, .call { callee := .builtin .len, args := #[x], argTypes := #[T] }, ty, pos, af, g⟩ :: rest) f L :=
  w_ev hw (v := .int .i64 len) (fun w _ => by
    simp [execOp, resolve, invoke, builtin, Builtin.len_, hx, underlying, program, Sem.run, hS, goInt]) kk

/-! Numbers -/
theorem eqGuard_int {op : BinOp} {t : Nat} {x y : Operand} {k k' : IntKind} {a b : Int} {w : World} : (eqGuard op t x y (.int k a) (.int k' b)).run P w = .ok () w := by
  simp only [eqGuard]; split <;> simp
theorem w_cmp {op : BinOp} {T T' : Nat} {x y : Operand} {k : IntKind} {a b : Int} {p : Bool} (hw : Region.wanted ⟨some d, .binOp op T x y T', ty, pos, af, g⟩ (yieldB f ops) = true) (hx : ev f x = .int k a) (hy : ev f y = .int k b)
    (hp : (match op with | .eql => some (decide (a = b)) | .neq => some (!decide (a = b)) | .lss => some (decide (a < b)) | .leq => some (decide (a ≤ b)) | .gtr => some (decide (b < a)) | .geq => some (decide (b ≤ a)) | _ => none) = some p)
    (kk : W P n w0 q ops Q rest (upd n f d (.bool p)) L) : W P n w0 q ops Q (⟨some d, .binOp op T x y T', ty, pos, af, g⟩ :: rest) f L :=
  w_ev hw (v := .bool p) (fun w _ => by
    simp only [execOp, Sem.run_bind, hx, hy, eqGuard_int, Result.andThen_ok]
    cases op <;> simp only [Option.some.injEq, reduceCtorEq] at hp <;> subst hp <;> simp [binOp, Op.intCmp]
    all_goals (try (first | rfl | (rw [Bool.eq_iff_iff]; simp)))) kk
theorem w_add {T T' : Nat} {x y : Operand} {a b : Int} (hw : Region.wanted ⟨some d, .binOp .add T x y T', ty, pos, af, g⟩ (yieldB f ops) = true) (hx : ev f x = .int .i64 a) (hy : ev f y = .int .i64 b)
    (h : -9223372036854775808 ≤ a + b ∧ a + b ≤ 9223372036854775807)
    (kk : W P n w0 q ops Q rest (upd n f d (.int .i64 (a + b))) L) : W P n w0 q ops Q (⟨some d, .binOp .add T x y T', ty, pos, af, g⟩ :: rest) f L :=
  w_ev hw (v := .int .i64 (a + b)) (fun w _ => by
    have : IntKind.i64.wrap (a + b) = a + b := by unfold IntKind.wrap; simp [IntKind.bits, IntKind.signed]; omega
    simp [execOp, hx, hy, eqGuard_int, binOp, Op.intArith, this]) kk
theorem w_sub {T T' : Nat} {x y : Operand} {a b : Int} (hw : Region.wanted ⟨some d, .binOp .sub T x y T', ty, pos, af, g⟩ (yieldB f ops) = true) (hx : ev f x = .int .i64 a) (hy : ev f y = .int .i64 b)
    (h : -9223372036854775808 ≤ a - b ∧ a - b ≤ 9223372036854775807)
    (kk : W P n w0 q ops Q rest (upd n f d (.int .i64 (a - b))) L) : W P n w0 q ops Q (⟨some d, .binOp .sub T x y T', ty, pos, af, g⟩ :: rest) f L :=
  w_ev hw (v := .int .i64 (a - b)) (fun w _ => by
    have : IntKind.i64.wrap (a - b) = a - b := by unfold IntKind.wrap; simp [IntKind.bits, IntKind.signed]; omega
    simp [execOp, hx, hy, eqGuard_int, binOp, Op.intArith, this]) kk
theorem w_mul {T T' : Nat} {x y : Operand} {a b : Int} (hw : Region.wanted ⟨some d, .binOp .mul T x y T', ty, pos, af, g⟩ (yieldB f ops) = true) (hx : ev f x = .int .i64 a) (hy : ev f y = .int .i64 b)
    (h : -9223372036854775808 ≤ a * b ∧ a * b ≤ 9223372036854775807)
    (kk : W P n w0 q ops Q rest (upd n f d (.int .i64 (a * b))) L) : W P n w0 q ops Q (⟨some d, .binOp .mul T x y T', ty, pos, af, g⟩ :: rest) f L :=
  w_ev hw (v := .int .i64 (a * b)) (fun w _ => by
    have : IntKind.i64.wrap (a * b) = a * b := by
      generalize a * b = c at *
      unfold IntKind.wrap; simp [IntKind.bits, IntKind.signed]; omega
    simp [execOp, hx, hy, eqGuard_int, binOp, Op.intArith, this]) kk
/-- Division of what is not below 0 by what is above 0. -/
theorem w_quo {T T' : Nat} {x y : Operand} {a b : Int} (hw : Region.wanted ⟨some d, .binOp .quo T x y T', ty, pos, af, g⟩ (yieldB f ops) = true) (hx : ev f x = .int .i64 a) (hy : ev f y = .int .i64 b)
    (h0 : 0 ≤ a) (h1 : a ≤ 9223372036854775807) (hb : 0 < b)
    (kk : W P n w0 q ops Q rest (upd n f d (.int .i64 (a / b))) L) : W P n w0 q ops Q (⟨some d, .binOp .quo T x y T', ty, pos, af, g⟩ :: rest) f L :=
  w_ev hw (v := .int .i64 (a / b)) (fun w _ => by
    have e : a.tdiv b = a / b := Int.tdiv_eq_ediv_of_nonneg h0
    have l1 : a / b ≤ a := Int.ediv_le_self _ h0
    have l0 : 0 ≤ a / b := Int.ediv_nonneg h0 (by omega)
    have : IntKind.i64.wrap (a / b) = a / b := by
      generalize a / b = c at *
      unfold IntKind.wrap; simp [IntKind.bits, IntKind.signed]; omega
    simp [execOp, hx, hy, eqGuard_int, binOp, Op.intDiv, e, this, show b ≠ 0 by omega]) kk
theorem w_rem {T T' : Nat} {x y : Operand} {a b : Int} (hw : Region.wanted ⟨some d, .binOp .rem T x y T', ty, pos, af, g⟩ (yieldB f ops) = true) (hx : ev f x = .int .i64 a) (hy : ev f y = .int .i64 b)
    (h0 : 0 ≤ a) (hb : 0 < b)
    (kk : W P n w0 q ops Q rest (upd n f d (.int .i64 (a % b))) L) : W P n w0 q ops Q (⟨some d, .binOp .rem T x y T', ty, pos, af, g⟩ :: rest) f L :=
  w_ev hw (v := .int .i64 (a % b)) (fun w _ => by
    have e : a.tmod b = a % b := Int.tmod_eq_emod_of_nonneg h0
    simp [execOp, hx, hy, eqGuard_int, binOp, Op.intDiv, e, show b ≠ 0 by omega]) kk
theorem w_not {T : Nat} {x : Operand} {b : Bool} (hw : Region.wanted ⟨some d, .unOp .not T x, ty, pos, af, g⟩ (yieldB f ops) = true) (hx : ev f x = .bool b)
    (kk : W P n w0 q ops Q rest (upd n f d (.bool (!b))) L) : W P n w0 q ops Q (⟨some d, .unOp .not T x, ty, pos, af, g⟩ :: rest) f L :=
  w_ev hw (v := .bool (!b)) (fun w _ => by simp [execOp, hx, Op.unary]) kk

/-! Structs built -/
def BD (P : Program) (T : Nat) (parts : List (Nat × Value)) (cs : Array Value) : Prop := ∀ w : World, (Instr.build T parts.toArray).run P w = .ok (.agg cs) w
theorem BD.mk {T : Nat} {fs : Array Field} {inf : TypeInfo} {z : Value} {places : Array (Nat × Nat)} {parts : List (Nat × Value)} {cs : Array Value} (h : P.underlying T = some (.struct fs)) (hi : P.info? T = some inf) (hz : inf.zero = some z)
    (hp : fs.map (fun fl => (fl.offset, ((P.info? fl.type).map (·.size)).getD 0)) = places) (hall : fs.all (fun fl => (P.info? fl.type).isSome) = true) (hf : Instr.fill (places[·]?) z.cells parts = some cs) : BD P T parts cs := by
  intro w
  have hm : (fs.mapM (fun fl => (do pure (fl.offset, ← sizeOf fl.type) : Sem (Nat × Nat)))).run P w = .ok places w := by
    subst hp
    rw [Array.mapM_eq_mapM_toList]
    have key : ∀ l : List Field, (l.all fun fl => (P.info? fl.type).isSome) = true → (l.mapM (fun fl => (do pure (fl.offset, ← sizeOf fl.type) : Sem (Nat × Nat)))).run P w = .ok (l.map (fun fl => (fl.offset, ((P.info? fl.type).map (·.size)).getD 0))) w := by
      intro l
      induction l with
      | nil => intro _; simp
      | cons x l ih =>
        intro ha
        simp only [List.all_cons, Bool.and_eq_true] at ha
        obtain ⟨i, hi⟩ := Option.isSome_iff_exists.1 ha.1
        have ih := ih ha.2
        simp only [List.mapM_cons, Sem.run_bind, sizeOf, typeInfo, program, Sem.run, Result.andThen_ok, hi, Sem.run_pure, List.map_cons, Option.map_some, Option.getD_some] at ih ⊢
        rw [ih]
        simp
    have := key fs.toList (by simpa using hall)
    rw [show ∀ (x : Sem (List (Nat × Nat))), (List.toArray <$> x).run P w = (x.run P w).andThen fun a w' => .ok a.toArray w' from fun x => Sem.run_map P w x _, this]
    simp only [Result.andThen_ok, Result.ok.injEq, and_true]
    apply Array.ext'; simp
  simp only [Instr.build, zeroValue, typeInfo, program, Sem.run_bind, Sem.run, Result.andThen_ok, hi, Sem.run_pure, hz, underlying, h, hm, hf]
theorem w_bd {T : Nat} {parts : List (Nat × Operand)} {cs : Array Value} (hw : Region.wanted ⟨some d, .build T parts.toArray, ty, pos, af, g⟩ (yieldB f ops) = true) (hB : BD P T (parts.map fun p => (p.1, ev f p.2)) cs)
    (kk : W P n w0 q ops Q rest (upd n f d (.agg cs)) L) : W P n w0 q ops Q (⟨some d, .build T parts.toArray, ty, pos, af, g⟩ :: rest) f L :=
  w_ev hw (v := .agg cs) (fun w _ => by
    have := hB w
    simp only [execOp, Sem.run_bind]
    have e : (Array.map (fun x : Nat × Operand => match x with | (i, x) => (i, ev f x)) parts.toArray) = (parts.map fun p => (p.1, ev f p.2)).toArray := by simp
    rw [e, this]; rfl) kk
end ops
end
end Go.Proofs.Ytnmhhelcaibdoaa.Sl
