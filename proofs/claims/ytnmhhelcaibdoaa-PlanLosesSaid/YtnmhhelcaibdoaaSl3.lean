/- The walk's own calculus, part three: new variables, stores, calls, a function's entry and its results. -/
import Derived.Test.YtnmhhelcaibdoaaSl2
namespace Go.Proofs.Ytnmhhelcaibdoaa.Sl
open Go Go.RowKit
set_option linter.unusedVariables false
set_option linter.unusedSimpArgs false

section
variable {P : Program} {n : Nat} {w0 : World} {q : Mo} {ops : Array Oper} {Q : Po} {rest : List Oper} {f : Fm} {L : Own}
section ops
variable {d ty : Nat} {dst : Option Nat} {pos : String} {af : Array Edge} {g : Option (Nat × Bool)}

/-- An operation that yields one value and a world of a class with other blocks. -/
theorem w_act {o : Oper} (hw : Region.wanted o (yieldB f ops) = true)
    (h : ∀ w, Mem w0 w L → ∃ v L' w', (execOp (ev f) o).run P w = .ok (.value v) w' ∧ Mem w0 w' L' ∧ W P n w0 .lex ops Q rest (putf n f o.dst v) L') : W P n w0 .lex ops Q (o :: rest) f L := by
  refine ⟨fun r ds a w ha hM => ?_, fun ds a w ha hM => ?_⟩
  · obtain ⟨v, L', w', h1, h2, h3⟩ := h w hM
    refine wpListIn_step fun K hK => ?_
    rw [ha.yields, if_pos hw]
    refine ⟨fun _ _ => trivial, ?_⟩
    rw [ha.eval_fun, semAt_val h1]
    exact hK _ _ (h3.1 _ _ _ _ (ha.put _ _) h2)
  · obtain ⟨v, L', w', h1, h2, h3⟩ := h w hM
    refine wpList_step fun K hK => ?_
    rw [ha.yields, if_pos hw]
    show o.upon P a K _ _
    rw [ha.eval_fun, h1]
    exact hK _ _ (h3.2 _ _ _ (ha.put _ _) h2)
theorem w_actu {o : Oper} (hw : Region.wanted o (yieldB f ops) = true)
    (h : ∀ w, Mem w0 w L → ∃ L' w', (execOp (ev f) o).run P w = .ok .skip w' ∧ Mem w0 w' L' ∧ W P n w0 .lex ops Q rest (putf n f o.dst undef) L') : W P n w0 .lex ops Q (o :: rest) f L := by
  refine ⟨fun r ds a w ha hM => ?_, fun ds a w ha hM => ?_⟩
  · obtain ⟨L', w', h1, h2, h3⟩ := h w hM
    refine wpListIn_step fun K hK => ?_
    rw [ha.yields, if_pos hw]
    refine ⟨fun _ _ => trivial, ?_⟩
    rw [ha.eval_fun, semAt_skip h1]
    exact hK _ _ (h3.1 _ _ _ _ (ha.put _ _) h2)
  · obtain ⟨L', w', h1, h2, h3⟩ := h w hM
    refine wpList_step fun K hK => ?_
    rw [ha.yields, if_pos hw]
    show o.upon P a K _ _
    rw [ha.eval_fun, h1]
    exact hK _ _ (h3.2 _ _ _ (ha.put _ _) h2)

/-! ### New variables -/
theorem newRow_run {T : Nat} {zs : List Value} {w : World} : (newRow T zs.toArray).run P w = .ok ⟨w.heap.size, 0, none⟩ (w.alloc (B T zs)) := rfl
def AL (P : Program) (T : Nat) (zs : List Value) : Prop := ∀ w : World, (Instr.alloc T true (.tuple #[])).run P w = .ok (.pointer (some ⟨w.heap.size, 0, none⟩)) (w.alloc (B T zs))
theorem AL.mk {T : Nat} {inf : TypeInfo} {z : Value} {zs : List Value} (hi : P.info? T = some inf) (hz : inf.zero = some z) (hc : z.cells = zs.toArray) : AL P T zs := by
  intro w
  have hz' : (zeroValue T).run P w = .ok z w := by simp [zeroValue, typeInfo, program, Sem.run, hi, hz]
  simp only [Instr.alloc, Sem.run_bind, hz', Result.andThen_ok, newVar, hc, newRow_run, Sem.run_pure]
theorem w_al {T : Nat} {zs : List Value} (hw : Region.wanted ⟨some d, .alloc T, ty, pos, af, g⟩ (yieldB f ops) = true) (hA : AL P T zs)
    (k : ∀ b, W P n w0 .lex ops Q rest (upd n f d (.pointer (some ⟨b, 0, none⟩))) ((b, B T zs) :: L)) : W P n w0 .lex ops Q (⟨some d, .alloc T, ty, pos, af, g⟩ :: rest) f L :=
  w_act hw fun w hM => ⟨.pointer (some ⟨w.heap.size, 0, none⟩), _, _, by simp [execOp, hA w], hM.new _, k _⟩
theorem w_box {T : Nat} {x : Operand} {v : Value} {cs : List Value} (hw : Region.wanted ⟨some d, .box T x, ty, pos, af, g⟩ (yieldB f ops) = true) (hx : ev f x = v) (hv : v.cells = cs.toArray)
    (k : ∀ b, W P n w0 .lex ops Q rest (upd n f d (.pointer (some ⟨b, 0, none⟩))) ((b, B T cs) :: L)) : W P n w0 .lex ops Q (⟨some d, .box T x, ty, pos, af, g⟩ :: rest) f L :=
  w_act hw fun w hM => ⟨.pointer (some ⟨w.heap.size, 0, none⟩), _, w.alloc (B T cs), by simp only [execOp, hx, Instr.box, newVar, hv, Sem.run_bind, newRow_run, Result.andThen_ok, Sem.run_pure], hM.new _, k _⟩

/-! ### Stores -/
def setAll : List Value → Nat → List Value → List Value
  | cs, _, [] => cs
  | cs, o, v :: vs => setAll (cs.set o v) (o + 1) vs
theorem setAll_length : ∀ (vs cs : List Value) (o : Nat), (setAll cs o vs).length = cs.length
  | [], cs, o => rfl
  | v :: vs, cs, o => by simp [setAll, setAll_length vs]
theorem setAll_whole : ∀ (vs cs pre : List Value), vs.length = cs.length → setAll (pre ++ cs) pre.length vs = pre ++ vs
  | [], [], pre, _ => rfl
  | v :: vs, c :: cs, pre, h => by
    have := setAll_whole vs cs (pre ++ [v]) (by simpa using h)
    simp only [List.length_append, List.length_cons, List.length_nil, List.append_assoc, List.cons_append, List.nil_append] at this
    simp only [setAll, List.set_append_right _ _ (Nat.le_refl _), Nat.sub_self, List.set_cons_zero]
    exact this
theorem setAll_all {vs cs : List Value} (h : vs.length = cs.length) : setAll cs 0 vs = vs := setAll_whole vs cs [] h
theorem storeCells_run {b T : Nat} {R : Own} : ∀ (vs : List Value) (i o : Nat) (cs : List Value) (w : World), Mem w0 w ((b, B T cs) :: R) → vs.all Value.oneCell' = true → o + i + vs.length ≤ cs.length →
    ∃ w', (storeCells ⟨b, o, none⟩ vs i).run P w = .ok () w' ∧ Mem w0 w' ((b, B T (setAll cs (o + i) vs)) :: R)
  | [], i, o, cs, w, hM, _, _ => ⟨w, by simp [storeCells], hM⟩
  | v :: vs, i, o, cs, w, hM, ho, hl => by
    simp only [List.all_cons, Bool.and_eq_true] at ho
    simp only [List.length_cons] at hl
    have hc : w.cell? ⟨b, o + i, none⟩ = cs[o + i]? := hM.cellB .here _
    have hlt : o + i < cs.length := by omega
    rw [List.getElem?_eq_getElem hlt] at hc
    have hM' : Mem w0 (w.setCell ⟨b, o + i, none⟩ v) ((b, B T (cs.set (o + i) v)) :: R) := hM.setB .here
    obtain ⟨w', h1, h2⟩ := storeCells_run vs (i + 1) o (cs.set (o + i) v) _ hM' ho.2 (by simp; omega)
    refine ⟨w', ?_, by simpa [setAll, Nat.add_assoc] using h2⟩
    have hf := hM.notFrozenB (T := T) (cs := cs) .here (o + i)
    simp only [storeCells, Sem.run_bind, addr_add, run_store _ _ _ _ _ ho.1, hc, hf, Bool.false_eq_true, if_false, Result.andThen_ok, h1]
/-- What a variable of type T takes: m cells. -/
def SC (P : Program) (T m : Nat) : Prop := (P.info? T).map (·.size) = some m
theorem w_sto {T T' m : Nat} {x y : Operand} {b o : Nat} {cs vs : List Value} {v : Value} {L' : Own} (hw : Region.wanted ⟨dst, .store T x y, ty, pos, af, g⟩ (yieldB f ops) = true) (hT : SC P T m)
    (hx : ev f x = .pointer (some ⟨b, o, none⟩)) (hy : ev f y = v) (hv : v.cells = vs.toArray) (hm : vs.length = m) (ho : vs.all Value.oneCell' = true) (hp : Put L b (B T' cs) (B T' (setAll cs o vs)) L') (hl : o + vs.length ≤ cs.length)
    (k : W P n w0 .lex ops Q rest (putf n f dst undef) L') : W P n w0 .lex ops Q (⟨dst, .store T x y, ty, pos, af, g⟩ :: rest) f L :=
  w_actu hw fun w hM => by
    obtain ⟨R, h1, h2⟩ := hp.perm
    obtain ⟨w', h3, h4⟩ := storeCells_run (P := P) vs 0 o cs w (hM.perm h1) ho (by omega)
    refine ⟨L', w', ?_, (by simpa using h4 : Mem w0 w' ((b, B T' (setAll cs o vs)) :: R)).perm h2, k⟩
    cases hi : P.info? T with
    | none => simp [SC, hi] at hT
    | some inf =>
      simp [SC, hi] at hT
      simp only [execOp, hx, hy, Instr.storeAt, Instr.sureAddr, storeVar, sizeOf, typeInfo, program, Sem.run_bind, Sem.run, Result.andThen_ok, hi, Sem.run_pure, hv, hT]
      simp [hm, h3]
/-- One cell. -/
theorem w_st1 {T T' : Nat} {x y : Operand} {b o : Nat} {cs : List Value} {v : Value} {L' : Own} (hw : Region.wanted ⟨dst, .store T x y, ty, pos, af, g⟩ (yieldB f ops) = true) (hT : SC P T 1)
    (hx : ev f x = .pointer (some ⟨b, o, none⟩)) (hy : ev f y = v) (ho : v.oneCell' = true) (hp : Put L b (B T' cs) (B T' (cs.set o v)) L') (hl : o < cs.length)
    (k : W P n w0 .lex ops Q rest (putf n f dst undef) L') : W P n w0 .lex ops Q (⟨dst, .store T x y, ty, pos, af, g⟩ :: rest) f L :=
  w_sto (vs := [v]) hw hT hx hy (by cases v <;> simp_all [Value.cells, Value.oneCell']) rfl (by simp [ho]) hp (by simpa [Nat.succ_le_iff] using hl) k
/-- A whole variable. -/
theorem w_stw {T T' m : Nat} {x y : Operand} {b : Nat} {cs vs : List Value} {v : Value} {L' : Own} (hw : Region.wanted ⟨dst, .store T x y, ty, pos, af, g⟩ (yieldB f ops) = true) (hT : SC P T m)
    (hx : ev f x = .pointer (some ⟨b, 0, none⟩)) (hy : ev f y = v) (hv : v.cells = vs.toArray) (hm : vs.length = m) (ho : vs.all Value.oneCell' = true) (hp : Put L b (B T' cs) (B T' vs) L') (hl : vs.length = cs.length)
    (k : W P n w0 .lex ops Q rest (putf n f dst undef) L') : W P n w0 .lex ops Q (⟨dst, .store T x y, ty, pos, af, g⟩ :: rest) f L :=
  w_sto hw hT hx hy hv hm ho (by rw [setAll_all hl]; exact hp) (by omega) k

/-! ### Calls -/
def FNb (P : Program) (k : Nat) : Bool :=
  match P.funcs[k]? with
  | some fn => !(fn.name == "runtime.NumGoroutine") && fn.body.isSome
  | none => false
theorem callFunc_run {k : Nat} (h : FNb P k = true) (args : Array Value) (w : World) : (callFunc k args).run P w = .ok (.enter k args) w := by
  unfold FNb at h
  split at h
  · rename_i fn hf
    simp only [Bool.and_eq_true, Bool.not_eq_true', beq_eq_false_iff_ne] at h
    obtain ⟨h1, h2⟩ := h
    have h3 : fn.body.isNone = false := by cases hb : fn.body <;> simp_all
    have h4 : (fn.name == "runtime.NumGoroutine") = false := by simpa using h1
    simp only [callFunc, program, Sem.run_bind, Sem.run, Result.andThen_ok, hf, h4, h3, Bool.false_eq_true, if_false]
    rfl
  · cases h
theorem exec_call {k : Nat} {x : Operand} {xs : List Operand} {at_ : Array TypeId} {cap : Array Value} {args : List Value} (hF : FNb P k = true) (hx : ev f x = .func (.func k) #[] cap) (ha : xs.map (ev f) ++ cap.toList = args) (w : World) :
    (execOp (ev f) ⟨dst, .call { callee := .value x, args := xs.toArray, argTypes := at_ }, ty, pos, af, g⟩).run P w = .ok (.enter k args.toArray) w := by
  simp only [execOp, resolve, hx, Deferred.ofValue, Sem.run_bind, Sem.run_pure, Result.andThen_ok, invoke, callFunc_run hF]
  congr 2
  rw [← ha]
  apply Array.ext'
  simp
/-- What calls of k at args give, from every world of the class. -/
def Gives (P : Program) (w0 : World) (L : Own) (k : Nat) (args : List Value) (R : Value → Own → Prop) : Prop :=
  ∀ w, Mem w0 w L → Calls P k args.toArray w fun e w' => ∃ v L', e = .returned v ∧ Mem w0 w' L' ∧ R v L'
theorem Gives.mono {k : Nat} {args : List Value} {R R' : Value → Own → Prop} (h : Gives P w0 L k args R) (hr : ∀ v L', R v L' → R' v L') : Gives P w0 L k args R' :=
  fun w hM => (h w hM).mono fun e w' ⟨v, L', h1, h2, h3⟩ => ⟨v, L', h1, h2, hr _ _ h3⟩
theorem calls_in {k : Nat} {args : Array Value} {w : World} {r : Option Nat} {m : Nat} {R : Ending → World → Prop} (h : Calls P k args w R) : CallsIn (Fw r) m P k args w R := (callsIn_wide (n := m)).2 h
theorem call_in {k : Nat} {x : Operand} {xs : List Operand} {at_ : Array TypeId} {cap : Array Value} {args : List Value} {R : Value → Own → Prop} (hc : Gives P w0 L k args R)
    (hw : Region.wanted ⟨dst, .call { callee := .value x, args := xs.toArray, argTypes := at_ }, ty, pos, af, g⟩ (yieldB f ops) = true) (hF : FNb P k = true)
    (hx : ev f x = .func (.func k) #[] cap) (ha : xs.map (ev f) ++ cap.toList = args) {r : Option Nat} {ds : List Deferred} {a : Act} {w : World} (haa : Fr ds n a f) (hM : Mem w0 w L)
    (kk : ∀ v L' a w, R v L' → Fr ds n a (putf n f dst v) → Mem w0 w L' → wpListIn (Fw r) 0 P ops (QA n w0 ds Q) rest a w) : wpListIn (Fw r) 0 P ops (QA n w0 ds Q) (⟨dst, .call { callee := .value x, args := xs.toArray, argTypes := at_ }, ty, pos, af, g⟩ :: rest) a w := by
  refine wpListIn_step fun K hK => ?_
  rw [haa.yields, if_pos hw]
  refine ⟨fun _ _ => trivial, ?_⟩
  rw [haa.eval_fun, Oper.semAt_eq _ _ _ (fun c h => by cases h), exec_call hF hx ha]
  refine ⟨fun h => (by cases h), calls_in ((hc w hM).mono ?_)⟩
  rintro e w' ⟨v, L', rfl, h2, h3⟩
  exact hK _ _ (kk v L' _ _ h3 (haa.put _ _) h2)
theorem w_call {k : Nat} {x : Operand} {xs : List Operand} {at_ : Array TypeId} {cap : Array Value} {args : List Value} {R : Value → Own → Prop} (hc : Gives P w0 L k args R)
    (hw : Region.wanted ⟨dst, .call { callee := .value x, args := xs.toArray, argTypes := at_ }, ty, pos, af, g⟩ (yieldB f ops) = true) (hF : FNb P k = true)
    (hx : ev f x = .func (.func k) #[] cap) (ha : xs.map (ev f) ++ cap.toList = args)
    (kk : ∀ v L', R v L' → W P n w0 .lex ops Q rest (putf n f dst v) L') : W P n w0 .lex ops Q (⟨dst, .call { callee := .value x, args := xs.toArray, argTypes := at_ }, ty, pos, af, g⟩ :: rest) f L := by
  refine ⟨fun r ds a w haa hM => call_in hc hw hF hx ha haa hM fun v L' a' w' hr h1 h2 => (kk v L' hr).1 _ _ _ _ h1 h2, fun ds a w haa hM => ?_⟩
  refine wpList_step fun K hK => ?_
  rw [haa.yields, if_pos hw]
  show Oper.upon P _ a K _ _
  rw [haa.eval_fun, exec_call hF hx ha]
  refine (hc w hM).mono ?_
  rintro e w' ⟨v, L', rfl, h2, h3⟩
  exact hK _ _ ((kk v L' h3).2 _ _ _ (haa.put _ _) h2)
/-- A call that gives one known value and leaves the memory at hand. -/
theorem w_callp {k : Nat} (hq : q ≠ .take) {x : Operand} {xs : List Operand} {at_ : Array TypeId} {cap : Array Value} {args : List Value} {v : Value} (hc : Gives P w0 L k args (fun v' L' => v' = v ∧ L' = L))
    (hw : Region.wanted ⟨dst, .call { callee := .value x, args := xs.toArray, argTypes := at_ }, ty, pos, af, g⟩ (yieldB f ops) = true) (hF : FNb P k = true)
    (hx : ev f x = .func (.func k) #[] cap) (ha : xs.map (ev f) ++ cap.toList = args)
    (kk : W P n w0 q ops Q rest (putf n f dst v) L) : W P n w0 q ops Q (⟨dst, .call { callee := .value x, args := xs.toArray, argTypes := at_ }, ty, pos, af, g⟩ :: rest) f L := by
  cases q with
  | lex => exact w_call hc hw hF hx ha fun v' L' ⟨h1, h2⟩ => by subst h1; subst h2; exact kk
  | take => exact absurd rfl hq
  | yld => exact fun ds a w haa hM => call_in hc hw hF hx ha haa hM fun v' L' a' w' ⟨e1, e2⟩ h1 h2 => by subst e1; subst e2; exact kk _ _ _ h1 h2
  | quiet =>
    intro ds a haa
    unfold wpQuiet
    rw [haa.yields, if_pos hw]
    refine ⟨v, fun w hM => ?_, kk _ _ (haa.put _ _)⟩
    show Oper.quietUpon P _ w v _
    rw [haa.eval_fun, exec_call hF hx ha]
    refine ⟨rfl, (hc w hM).mono ?_⟩
    rintro e w' ⟨v', L', rfl, h2, rfl, rfl⟩
    exact ⟨rfl, h2⟩
/-- What a call of the loop l's yield gives, from every world of the class. -/
def YldG (P : Program) (w0 : World) (L : Own) (l : Nat) (args : List Value) (R : Value → Own → Prop) : Prop :=
  ∀ w, Mem w0 w L → YieldAt Fence.wide 0 P l args.toArray w fun e w' => ∃ v L', e = .returned v ∧ Mem w0 w' L' ∧ R v L'
/-- Yield called. -/
theorem w_yield {l : Nat} {x : Operand} {xs : List Operand} {at_ : Array TypeId} {args : List Value} {R : Value → Own → Prop} (hc : YldG P w0 L l args R)
    (hw : Region.wanted ⟨dst, .call { callee := .value x, args := xs.toArray, argTypes := at_ }, ty, pos, af, g⟩ (yieldB f ops) = true)
    (hx : ev f x = .func (.yield l) #[] #[]) (ha : xs.map (ev f) = args)
    (kk : ∀ v L', R v L' → W P n w0 .yld ops Q rest (putf n f dst v) L') : W P n w0 .yld ops Q (⟨dst, .call { callee := .value x, args := xs.toArray, argTypes := at_ }, ty, pos, af, g⟩ :: rest) f L := by
  intro ds a w haa hM
  refine wpListIn_step fun K hK => ?_
  rw [haa.yields, if_pos hw]
  refine ⟨fun _ _ => trivial, ?_⟩
  obtain ⟨fn, tmps, asg, body, h1, h2⟩ := hc w hM
  have he : (execOp (ev f) ⟨dst, .call { callee := .value x, args := xs.toArray, argTypes := at_ }, ty, pos, af, g⟩).run P w = .ok (.round l fn tmps asg body) w := by
    rw [← h1, ← ha]
    simp only [execOp, resolve, hx, Deferred.ofValue, Sem.run_bind, Sem.run_pure, Result.andThen_ok, invoke]
    congr 2
    apply Array.ext'
    simp
  rw [haa.eval_fun, Oper.semAt_eq _ _ _ (fun c h => by cases h), he]
  refine ⟨fun h => (by cases h), RoundIn.mono h2 ?_⟩
  rintro e w' ⟨v, L', rfl, h3, h4⟩
  exact hK _ _ (kk v L' h4 _ _ _ (haa.put _ _) h3)
end ops

/-! ### A function's entry and its results -/
def ResOne (P : Program) (w0 : World) (L : Own) (f : Fm) : ResultVar → Value → Prop
  | .tmp t, v => f t = v
  | .cell t T, v => ∃ ad, f t = .pointer (some ad) ∧ ∀ w, Mem w0 w L → (loadVar T ad).run P w = .ok v w
def resV : List Value → Value
  | [v] => v
  | vs => .tuple vs.toArray
inductive ResAll (P : Program) (w0 : World) (L : Own) (f : Fm) : List ResultVar → List Value → Prop
  | nil : ResAll P w0 L f [] []
  | cons {r v rs vs} : ResOne P w0 L f r v → ResAll P w0 L f rs vs → ResAll P w0 L f (r :: rs) (v :: vs)
def retQ (P : Program) (w0 : World) (rs : List ResultVar) (R : Value → Own → Prop) : Po := fun e f L =>
  match e with
  | .normal | .ret => ∃ vs L', ResAll P w0 L f rs vs ∧ L'.Sublist L ∧ R (resV vs) L'
  | _ => False
def resSem (tmps : Array Value) : ResultVar → Sem Value
  | .tmp t => pure (tmps.getD t undef)
  | .cell c t => do loadVar t (← asAddr (tmps.getD c undef))
theorem results_run {ds : List Deferred} {a : Act} {w : World} {fn : Func} {vs : List Value} (ha : Fr ds n a f) (hM : Mem w0 w L) (h : ResAll P w0 L f fn.results.toList vs) : (results fn a.tmps).run P w = .ok (resV vs) w := by
  have key : ∀ (rs : List ResultVar) (vs : List Value), ResAll P w0 L f rs vs → (rs.mapM (resSem a.tmps)).run P w = .ok vs w := by
    intro rs vs hr
    induction hr with
    | nil => simp
    | @cons r v rs vs h1 _ ih =>
      simp only [List.mapM_cons, Sem.run_bind]
      have : (resSem a.tmps r).run P w = .ok v w := by
        cases r with
        | tmp t => simp only [ResOne] at h1; simp only [resSem, Sem.run_pure, ha.val, h1]
        | cell c t =>
          obtain ⟨ad, h2, h3⟩ := h1
          simp only [resSem, Sem.run_bind, ha.val, h2, asAddr, Sem.run_pure, Result.andThen_ok, h3 w hM]
      rw [this, Result.andThen_ok, ih]
      simp
  have h1 := key _ _ h
  have e : results fn a.tmps = (do let vs ← fn.results.mapM (resSem a.tmps); pure (if h : vs.size = 1 then vs[0] else .tuple vs)) := by
    unfold results
    congr 2
  rw [e, Array.mapM_eq_mapM_toList]
  simp only [Sem.run_bind, Sem.run_map, h1, Result.andThen_ok, Sem.run_pure]
  congr 1
  match vs with
  | [] => simp [resV]
  | [v] => simp [resV]
  | v :: u :: vs => simp [resV]
theorem ini_fr {args : List Value} (h : args.length ≤ n) : Fr [] n { tmps := args.toArray ++ Array.replicate (n - args.toArray.size) undef, defers := [] } (ini args) := by
  refine ⟨rfl, by simp; omega, fun i => ?_⟩
  simp only [Array.getD_eq_getD_getElem?, ini, List.getD_eq_getElem?_getD, Array.getElem?_append]
  by_cases hi : i < args.length
  · simp [hi]
  · rw [if_neg (by simpa using hi), List.getElem?_eq_none (by omega), Array.getElem?_replicate]
    split <;> rfl
theorem enter {rs : List ResultVar} {k : Nat} {fn : Func} {c : Code} {args : List Value} {R : Value → Own → Prop} (hf : P.funcs[k]? = some fn) (hb : fn.body = some c) (hn : fn.ntmps = n) (hr : fn.results = rs.toArray) (hl : args.length ≤ n)
    (h : CW P n w0 c (retQ P w0 rs R) (ini args) L) : Gives P w0 L k args R := by
  intro w hM
  subst hn
  refine calls_of_wp hf hb (wp_mono ((wpIn_wide (n := 0)).1 (h [] _ w (ini_fr hl) hM)) ?_)
  rintro e a w' ⟨f', L', h1, h2, h3⟩
  cases e <;> simp only [retQ] at h3
  all_goals
    obtain ⟨vs, L2, h4, h5, h6⟩ := h3
    exact ⟨h1.defers, _, results_run h1 h2 (by rw [hr]; exact h4), _, L2, rfl, h2.drop h5, h6⟩
/-- .. from the world of the call on: what is known of the caller's memory is known of it. -/
theorem enterB {rs : List ResultVar} {k : Nat} {fn : Func} {c : Code} {args : List Value} {R : Value → Own → Prop} (hf : P.funcs[k]? = some fn) (hb : fn.body = some c) (hn : fn.ntmps = n) (hr : fn.results = rs.toArray) (hl : args.length ≤ n)
    (h : ∀ w, Mem w0 w L → CW P n w c (retQ P w rs R) (ini args) []) : Gives P w0 L k args (fun v L' => ∃ S, L' = S ++ L ∧ R v S) := by
  intro w hM
  refine (enter hf hb hn hr hl (h w hM) w (Mem.refl w)).mono ?_
  rintro e w' ⟨v, L', h1, h2, h3⟩
  exact ⟨v, L' ++ L, h1, hM.trans h2, L', rfl, h3⟩
/-- .. one known value, nothing new that is kept. -/
theorem enterP {rs : List ResultVar} {k : Nat} {fn : Func} {c : Code} {args : List Value} {v : Value} (hf : P.funcs[k]? = some fn) (hb : fn.body = some c) (hn : fn.ntmps = n) (hr : fn.results = rs.toArray) (hl : args.length ≤ n)
    (h : ∀ w, Mem w0 w L → CW P n w c (retQ P w rs (fun v' L' => v' = v ∧ L' = [])) (ini args) []) : Gives P w0 L k args (fun v' L' => v' = v ∧ L' = L) :=
  (enterB hf hb hn hr hl h).mono fun v' L' ⟨S, h1, h2, h3⟩ => ⟨h2, by rw [h1, h3]; rfl⟩
end
end Go.Proofs.Ytnmhhelcaibdoaa.Sl
