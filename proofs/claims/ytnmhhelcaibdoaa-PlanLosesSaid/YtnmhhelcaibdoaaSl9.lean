/- The walk's own calculus, part nine: more operations: indexes, stores at computed places, copy, reslicing, maps with whole numbers as keys, conversions, structs held against each other. -/
import Derived.Test.YtnmhhelcaibdoaaSl8
import Derived.Laws.StructEq
namespace Go.Proofs.Ytnmhhelcaibdoaa.Sl
open Go Go.RowKit
set_option linter.unusedVariables false
set_option linter.unusedSimpArgs false
section
variable {P : Program} {n : Nat} {w0 : World} {q : Mo} {ops : Array Oper} {Q : Po} {rest : List Oper} {f : Fm} {L : Own}
variable {d ty : Nat} {dst : Option Nat} {pos : String} {af : Array Edge} {g : Option (Nat × Bool)}
theorem x_ixA {T s : Nat} [hS : CSZ P T s] {x i : Operand} {k : IntKind} {A : Option Addr} {b o : Nat} {len cap : Nat} {j : Int} (hw : Region.wanted ⟨some d, .indexAddr T x i, ty, pos, af, g⟩ (yieldB f ops) = true) (hx : ev f x = .slice A len cap) (hi : ev f i = .int k j)
    (hA : A = some ⟨b, o, none⟩) (h0 : 0 ≤ j) (h1 : j < len) (kk : W P n w0 q ops Q rest (upd n f d (.pointer (some ⟨b, o + j.toNat * s, none⟩))) L) : W P n w0 q ops Q (⟨some d, .indexAddr T x i, ty, pos, af, g⟩ :: rest) f L := by
  subst hA; exact x_ix hw hx hi h0 h1 kk
/-- A store of one cell at a computed place. -/
theorem x_sts {T T' : Nat} [hT : CSC P T 1] {x y : Operand} {b o : Nat} {cs : List Value} {v : Value} {L' : Own} (hw : Region.wanted ⟨dst, .store T x y, ty, pos, af, g⟩ (yieldB f ops) = true)
    (hx : ev f x = .pointer (some ⟨b, o, none⟩)) (hy : ev f y = v) (ho : v.oneCell' = true) (hp : Put L b (B T' cs) (B T' (cs.set o v)) L') (hl : o < cs.length)
    (k : W P n w0 .lex ops Q rest (putf n f dst undef) L') : W P n w0 .lex ops Q (⟨dst, .store T x y, ty, pos, af, g⟩ :: rest) f L := w_st1 hw hT.out hx hy ho hp hl k
/-- x[lo:hi], all bounds known. -/
def slB (lo hi : Option Value) (len : Nat) (l h : Nat) : Prop := (match lo with | some v => v = .int .i64 l | none => l = 0) ∧ (match hi with | some v => v = .int .i64 h | none => h = len)
theorem x_sl {T E s : Nat} [hL : CSL P T E] [hS : CSZ P T s] {x : Operand} {lo hi : Option Operand} {A : Option Addr} {len cap l h : Nat} (hw : Region.wanted ⟨some d, .slice T x lo hi none, ty, pos, af, g⟩ (yieldB f ops) = true) (hx : ev f x = .slice A len cap)
    (hb : slB (lo.map (ev f)) (hi.map (ev f)) len l h) (h1 : l ≤ h) (h2 : h ≤ cap)
    (k : W P n w0 q ops Q rest (upd n f d (.slice (if cap = l then A else A.map (·.add (l * s))) (h - l) (cap - l))) L) : W P n w0 q ops Q (⟨some d, .slice T x lo hi none, ty, pos, af, g⟩ :: rest) f L :=
  w_ev hw (v := .slice (if cap = l then A else A.map (·.add (l * s))) (h - l) (cap - l)) (fun w _ => by
    obtain ⟨E', hE', hs⟩ := hS.out
    have : E' = E := by have := hL.out; rw [hE'] at this; injection this with this; injection this
    subst this
    cases hie : P.info? E' with
    | none => simp [hie] at hs
    | some inf =>
      simp [hie] at hs
      have hun : (underlying T).run P w = .ok (.slice E') w := by simp [underlying, program, Sem.run, hE']
      have hsize : (sizeOf E').run P w = .ok s w := by simp [sizeOf, typeInfo, program, Sem.run, hie, hs]
      have hbd : ∀ (v : Value) (j y : Nat) c, v = .int .i64 j → j ≤ y → (Instr.sliceBound v y c).run P w = .ok j w := by
        intro v j y c hv hj
        subst hv
        simp only [Instr.sliceBound, asIntOf, Sem.run_bind, Sem.run_pure, Result.andThen_ok]
        rw [if_pos ⟨by omega, by omega⟩]; simp
      have hbs : (Instr.sliceBounds true len cap (lo.map (ev f)) (hi.map (ev f)) none).run P w = .ok (l, h, cap) w := by
        obtain ⟨b1, b2⟩ := hb
        unfold Instr.sliceBounds
        cases hi with
        | none =>
          simp only [Option.map_none] at b2 ⊢
          subst b2
          cases lo with
          | none => simp only [Option.map_none] at b1 ⊢; subst b1; simp
          | some lo => simp only [Option.map_some] at b1 ⊢; simp [hbd _ l h _ b1 h1]
        | some hi =>
          simp only [Option.map_some] at b2 ⊢
          cases lo with
          | none => simp only [Option.map_none] at b1 ⊢; subst b1; simp [hbd _ h cap _ b2 h2]
          | some lo => simp only [Option.map_some] at b1 ⊢; simp [hbd _ l h _ b1 h1, hbd _ h cap _ b2 h2]
      simp only [execOp, hx, Instr.sliceAt, Sem.run_bind, hun, Result.andThen_ok, Option.map_none, Instr.slice, hbs, hsize, Sem.run_pure]) k
theorem x_slo {T E s : Nat} [hL : CSL P T E] [hS : CSZ P T s] {x : Operand} {lo hi : Option Operand} {b o len cap l h : Nat} (hw : Region.wanted ⟨some d, .slice T x lo hi none, ty, pos, af, g⟩ (yieldB f ops) = true) (hx : ev f x = .slice (some ⟨b, o, none⟩) len cap)
    (hb : slB (lo.map (ev f)) (hi.map (ev f)) len l h) (h1 : l ≤ h) (h2 : h ≤ cap) (h3 : l < cap)
    (k : W P n w0 q ops Q rest (upd n f d (.slice (some ⟨b, o + l * s, none⟩) (h - l) (cap - l))) L) : W P n w0 q ops Q (⟨some d, .slice T x lo hi none, ty, pos, af, g⟩ :: rest) f L := by
  refine x_sl hw hx hb h1 h2 ?_
  rw [if_neg (by omega), Option.map_some, addr_add]; exact k
theorem x_sl0 {T E s : Nat} [hL : CSL P T E] [hS : CSZ P T s] {x : Operand} {lo hi : Option Operand} {A : Option Addr} {len cap h : Nat} (hw : Region.wanted ⟨some d, .slice T x lo hi none, ty, pos, af, g⟩ (yieldB f ops) = true) (hx : ev f x = .slice A len cap)
    (hb : slB (lo.map (ev f)) (hi.map (ev f)) len 0 h) (h2 : h ≤ cap)
    (k : W P n w0 q ops Q rest (upd n f d (.slice A h cap)) L) : W P n w0 q ops Q (⟨some d, .slice T x lo hi none, ty, pos, af, g⟩ :: rest) f L := by
  refine x_sl hw hx hb (Nat.zero_le _) h2 ?_
  have : (if cap = 0 then A else A.map (·.add (0 * s))) = A := by
    split
    · rfl
    · cases A <;> simp [Addr.add]
  rw [this]; exact k
/-- copy(dst, src) into a block of the list. -/
theorem x_cp {ST XT E XE s by_ dl dc sl : Nat} [hS : CSL P ST E] [hX : CSL P XT XE] [hE : CCE P E s by_] {x y : Operand} {b o T' : Nat} {cs ys : List Value} {xv : Value} {L' : Own}
    (hw : Region.wanted ⟨some d, .call { callee := .builtin .copy, args := #[x, y], argTypes := #[ST, XT] }, ty, pos, af, g⟩ (yieldB f ops) = true)
    (hx : ev f x = .slice (some ⟨b, o, none⟩) dl dc) (hy : ev f y = xv) (hxs : XS w0 L xv sl ys) (hl : ys.length = sl * s) (ho : ys.all Value.oneCell' = true) (hp : Put L b (B T' cs) (B T' (setAll cs o (ys.take (min sl dl * s)))) L') (hd : o + dl * s ≤ cs.length)
    (kk : W P n w0 .lex ops Q rest (upd n f d (.int .i64 (min sl dl : Nat))) L') : W P n w0 .lex ops Q (⟨some d, .call { callee := .builtin .copy, args := #[x, y], argTypes := #[ST, XT] }, ty, pos, af, g⟩ :: rest) f L :=
  w_act hw fun w hM => by
    obtain ⟨zs, inf, z, hi, hsz, hby, hz, hzc, hzl⟩ := hE.out
    obtain ⟨A, cap, rfl, hx1, hx2⟩ := id hxs
    have hun : (underlying ST).run P w = .ok (.slice E) w := by simp [underlying, program, Sem.run, hS.out]
    have hsize : (sizeOf E).run P w = .ok s w := by simp [sizeOf, typeInfo, program, Sem.run, hi, hsz]
    have hle : min sl dl * s ≤ ys.length := by rw [hl]; exact Nat.mul_le_mul_right _ (Nat.min_le_left _ _)
    have hfc := firstCells_run (P := P) (s := s) (m := min sl dl) hxs hM hle
    obtain ⟨R, hp1, hp2⟩ := hp.perm
    have hdl : min sl dl * s ≤ dl * s := Nat.mul_le_mul_right _ (Nat.min_le_right _ _)
    obtain ⟨w', h1, h2⟩ := storeCells_run (P := P) (ys.take (min sl dl * s)) 0 o cs w (hM.perm hp1) (by
      rw [List.all_eq_true] at ho ⊢
      exact fun v hv => ho v (List.mem_of_mem_take hv)) (by rw [List.length_take]; omega)
    refine ⟨.int .i64 (min sl dl : Nat), L', w', ?_, (by simpa using h2 : Mem w0 w' ((b, B T' (setAll cs o (ys.take (min sl dl * s)))) :: R)).perm hp2, kk⟩
    simp only [execOp, resolve, invoke, builtin, Sem.run_bind, Sem.run_pure, Result.andThen_ok, List.map_toArray, List.map_cons, List.map_nil, hx, hy, Builtin.copy_]
    simp only [List.getElem?_toArray, List.getElem?_cons_zero, List.getElem?_cons_succ, Sem.run_bind, hun, Result.andThen_ok, Builtin.lenOf, Sem.run_pure, hsize]
    rw [show Nat.min sl dl = min sl dl from rfl, hfc]
    simp only [Result.andThen_ok, Sem.run_bind, h1, Sem.run_pure, goInt]

/-! Numbers turned into other kinds. -/
theorem x_cv {S T : Nat} {k : IntKind} {x : Operand} {k0 : IntKind} {j : Int} {ds : TypeDesc} (hs : P.underlying S = some ds) (ht : P.underlying T = some (.int k)) (hw : Region.wanted ⟨some d, .convert S T x, ty, pos, af, g⟩ (yieldB f ops) = true) (hx : ev f x = .int k0 j) (hj : k.wrap j = j)
    (kk : W P n w0 q ops Q rest (upd n f d (.int k j)) L) : W P n w0 q ops Q (⟨some d, .convert S T x, ty, pos, af, g⟩ :: rest) f L :=
  w_ev hw (v := .int k j) (fun w _ => by
    have h1 : (underlying S).run P w = .ok ds w := by simp [underlying, program, Sem.run, hs]
    have h2 : (underlying T).run P w = .ok (.int k) w := by simp [underlying, program, Sem.run, ht]
    have h3 : (convert S T (.int k0 j)).run P w = .ok (.int k j) w := by
      simp only [convert, Sem.run_bind, h1, h2, Result.andThen_ok]
      cases ds <;> simp [Conv.intToInt, hj]
    simp only [execOp, hx, Sem.run_bind, h3, Result.andThen_ok, Sem.run_pure]) kk

/-! Maps with whole numbers as keys. -/
def mfind (k : Int) : List MapEntry → Option Value
  | [] => none
  | e :: es => match e.key with
    | .int _ a => if k = a then some e.val else mfind k es
    | _ => mfind k es
def mkeys (es : List MapEntry) : Prop := ∀ e ∈ es, ∃ k, e.key = .int .i64 k
theorem findNow_int {k : Int} {kd : IntKind} : ∀ (es : List MapEntry) (i : Nat), mkeys es → ∃ r, Instr.findNow (.int kd) (.int .i64 k) es i = some r ∧ (r.map (·.2)) = mfind k es ∧ (∀ j v, r = some (j, v) → i ≤ j ∧ ∃ e, es[j - i]? = some e ∧ e.key = .int .i64 k ∧ ∀ m e', m < j - i → es[m]? = some e' → e'.key ≠ .int .i64 k)
  | [], i, _ => ⟨none, rfl, rfl, fun j v h => by cases h⟩
  | e :: es, i, hk => by
    obtain ⟨a, ha⟩ := hk e (by simp)
    by_cases hka : k = a
    · refine ⟨some (i, e.val), ?_, ?_, ?_⟩
      · simp [Instr.findNow, ha, Instr.sameNow, hka]
      · simp [mfind, ha, hka]
      · intro j v h
        simp only [Option.some.injEq, Prod.mk.injEq] at h
        obtain ⟨rfl, _⟩ := h
        exact ⟨Nat.le_refl _, e, by simp, by rw [ha, hka], fun m e' hm _ => by omega⟩
    · obtain ⟨r, h1, h2, h3⟩ := findNow_int (k := k) (kd := kd) es (i + 1) (fun e' he' => hk e' (by simp [he']))
      refine ⟨r, ?_, ?_, ?_⟩
      · have : (k == a) = false := by simpa using hka
        simp [Instr.findNow, ha, Instr.sameNow, this, h1]
      · simp [mfind, ha, hka, h2]
      · intro j v h
        obtain ⟨g1, e', g2, g3, g4⟩ := h3 j v h
        refine ⟨by omega, e', ?_, g3, ?_⟩
        · rw [show j - i = (j - (i + 1)) + 1 by omega]; simpa using g2
        · intro m e2 hm he2
          cases m with
          | zero => simp at he2; subst he2; rw [ha]; intro h; injection h with _ h; exact hka h.symm
          | succ m => exact g4 m e2 (by omega) (by simpa using he2)
class CMI (P : Program) (T : Nat) (z : outParam Value) : Prop where out : ∃ K E k, P.underlying T = some (.map K E) ∧ P.underlying K = some (.int k) ∧ ((P.info? E).bind (·.zero)) = some z
theorem CMI.of {T K E : Nat} {k : IntKind} {z : Value} (h1 : P.underlying T = some (.map K E)) (h2 : P.underlying K = some (.int k)) (h3 : ((P.info? E).bind (·.zero)) = some z) : CMI P T z := ⟨K, E, k, h1, h2, h3⟩
theorem x_mm {T : Nat} (hw : Region.wanted ⟨some d, .makeMap T none, ty, pos, af, g⟩ (yieldB f ops) = true)
    (k : ∀ b, W P n w0 .lex ops Q rest (upd n f d (.map (some b))) ((b, .map #[] 0) :: L)) : W P n w0 .lex ops Q (⟨some d, .makeMap T none, ty, pos, af, g⟩ :: rest) f L :=
  w_act hw fun w hM => ⟨.map (some w.heap.size), _, w.alloc (.map #[] 0), by simp only [execOp, Instr.makeMap, Option.map_none, Sem.run_bind, newObj]; rfl, hM.new _, k _⟩
theorem checkKey_int {e : Bool} {K : Nat} {k : IntKind} {a : Int} {w : World} (h : P.underlying K = some (.int k)) : (Instr.checkKey e 10000 K (.int .i64 a)).run P w = .ok () w := by
  have : ∀ m, (Instr.checkKey e (m + 1) K (.int .i64 a)).run P w = .ok () w := fun m => by
    simp only [Instr.checkKey, Sem.run_bind, underlying, program, Sem.run, Result.andThen_ok, h, Sem.run_pure]
  exact this 9999
theorem findKey_int {K : Nat} {k : IntKind} {a : Int} {es : List MapEntry} {w : World} (h : P.underlying K = some (.int k)) (hk : mkeys es) : ∃ r, (Instr.findKey K (.int .i64 a) es).run P w = .ok r w ∧ (r.map (·.2)) = mfind a es ∧ (∀ j v, r = some (j, v) → ∃ e, es[j]? = some e ∧ e.key = .int .i64 a ∧ ∀ m e', m < j → es[m]? = some e' → e'.key ≠ .int .i64 a) := by
  obtain ⟨r, h1, h2, h3⟩ := findNow_int (k := a) (kd := k) es 0 hk
  refine ⟨r, ?_, h2, fun j v hr => by obtain ⟨_, e, g1, g2, g3⟩ := h3 j v hr; exact ⟨e, by simpa using g1, g2, fun m e' hm => g3 m e' (by omega)⟩⟩
  simp only [Instr.findKey, Sem.run_bind, underlying, program, Sem.run, Result.andThen_ok, h, Sem.run_pure, h1]
theorem Mem.obj {w : World} (h : Mem w0 w L) {b : Nat} {o : Obj} (hb : Has L b o) (hc : ∀ c e z, o ≠ .cells c e z) : (getObj b).run P w = .ok o w := by
  have := h.has hb
  simp only [getObj, Sem.run, this]
theorem x_lk {T : Nat} {z : Value} [hT : CMI P T z] {x i : Operand} {b : Nat} {es : Array MapEntry} {clk : Nat} {a : Int} (hw : Region.wanted ⟨some d, .lookup T x i false, ty, pos, af, g⟩ (yieldB f ops) = true) (hx : ev f x = .map (some b)) (hi : ev f i = .int .i64 a) (hb : Has L b (.map es clk)) (hk : mkeys es.toList)
    (kk : W P n w0 q ops Q rest (upd n f d ((mfind a es.toList).getD z)) L) : W P n w0 q ops Q (⟨some d, .lookup T x i false, ty, pos, af, g⟩ :: rest) f L :=
  w_ev hw (v := (mfind a es.toList).getD z) (fun w hM => by
    obtain ⟨K, E, k, h1, h2, h3⟩ := hT.out
    obtain ⟨r, hr1, hr2, _⟩ := findKey_int (P := P) (a := a) (w := w) h2 hk
    have hobj := Mem.obj (P := P) hM hb (by intro c e z h; cases h)
    have hun : (underlying T).run P w = .ok (.map K E) w := by simp [underlying, program, Sem.run, h1]
    have hz : (zeroValue E).run P w = .ok z w := by
      cases hi : P.info? E with
      | none => simp [hi] at h3
      | some inf => simp only [hi, Option.bind_some] at h3; simp [zeroValue, typeInfo, program, Sem.run, hi, h3]
    simp only [execOp, hx, hi, Instr.lookup, Sem.run_bind, hun, Result.andThen_ok, hobj, Sem.run_pure, checkKey_int h2, hr1]
    rw [← hr2]
    cases r with
    | none => simp [hz]
    | some r => simp) kk
theorem mfind_push {k : Int} {es : List MapEntry} {e : MapEntry} (hk : mkeys es) {a : Int} (he : e.key = .int .i64 a) (hn : mfind a es = none) : mfind k (es ++ [e]) = if k = a then some e.val else mfind k es := by
  induction es with
  | nil => simp [mfind, he]
  | cons x es ih =>
    obtain ⟨y, hy⟩ := hk x (by simp)
    simp only [List.cons_append, mfind, hy] at hn ⊢
    by_cases hay : a = y
    · rw [if_pos hay] at hn; cases hn
    · rw [if_neg hay] at hn
      rw [ih (fun e' he' => hk e' (by simp [he'])) hn]
      by_cases hky : k = y
      · subst hky; simp [Ne.symm hay]
      · simp [hky]
theorem mfind_modify {k a : Int} {v : Value} : ∀ {es : List MapEntry} {j : Nat} {e : MapEntry}, mkeys es → es[j]? = some e → e.key = .int .i64 a → (∀ m e', m < j → es[m]? = some e' → e'.key ≠ .int .i64 a) →
    mfind k (es.modify j fun e => { e with key := .int .i64 a, val := v }) = if k = a then some v else mfind k es
  | [], j, e, _, h, _, _ => by simp at h
  | x :: es, 0, e, hk, h, he, _ => by
    simp only [List.getElem?_cons_zero, Option.some.injEq] at h
    subst h
    simp only [List.modify_zero_cons, mfind, he]
    split <;> rfl
  | x :: es, j + 1, e, hk, h, he, hm => by
    obtain ⟨y, hy⟩ := hk x (by simp)
    have hay : a ≠ y := fun h => hm 0 x (by omega) (by simp) (by rw [hy, h])
    simp only [List.modify_succ_cons, mfind, hy]
    rw [mfind_modify (fun e' he' => hk e' (by simp [he'])) (by simpa using h) he (fun m e' hlt he' => hm (m + 1) e' (by omega) (by simpa using he'))]
    by_cases hky : k = y
    · subst hky; simp [Ne.symm hay]
    · simp [hky]
theorem mkeys_modify {es : List MapEntry} {a : Int} {v : Value} (hk : mkeys es) (j : Nat) : mkeys (es.modify j fun e => { e with key := .int .i64 a, val := v }) := by
  intro e he
  obtain ⟨i, hi, he⟩ := List.mem_iff_getElem.1 he
  rw [List.getElem_modify] at he
  split at he
  · exact ⟨a, by rw [← he]⟩
  · exact hk e (by rw [← he]; exact List.getElem_mem _)
theorem Has.put {L : Own} {b : Nat} {o : Obj} (h : Has L b o) (o' : Obj) : ∃ L', Put L b o o' L' := by
  induction h with
  | here => exact ⟨_, .here⟩
  | there _ ih => obtain ⟨L', h⟩ := ih; exact ⟨_, .there h⟩
theorem x_mu {T : Nat} {z : Value} [hT : CMI P T z] {x i y : Operand} {b : Nat} {es : Array MapEntry} {clk : Nat} {a : Int} {v : Value} (hw : Region.wanted ⟨dst, .mapUpdate T x i y, ty, pos, af, g⟩ (yieldB f ops) = true) (hx : ev f x = .map (some b)) (hi : ev f i = .int .i64 a) (hy : ev f y = v) {Lf : Obj → Own} (hp : ∀ o', Put L b (.map es clk) o' (Lf o')) (hk : mkeys es.toList)
    (kk : ∀ es' clk', mkeys es'.toList → (∀ k, mfind k es'.toList = if k = a then some v else mfind k es.toList) → W P n w0 .lex ops Q rest (putf n f dst undef) (Lf (.map es' clk'))) : W P n w0 .lex ops Q (⟨dst, .mapUpdate T x i y, ty, pos, af, g⟩ :: rest) f L :=
  w_actu hw fun w hM => by
    obtain ⟨K, E, k, h1, h2, h3⟩ := hT.out
    obtain ⟨r, hr1, hr2, hr3⟩ := findKey_int (P := P) (a := a) (w := w) h2 hk
    have hb := (hp (.map es clk)).has
    have hobj := Mem.obj (P := P) hM hb (by intro c e z h; cases h)
    have hun : (underlying T).run P w = .ok (.map K E) w := by simp [underlying, program, Sem.run, h1]
    have hset : ∀ o', ∀ L', Put L b (.map es clk) o' L' → ∃ w', (setObj b o').run P w = .ok () w' ∧ Mem w0 w' L' := by
      intro o' L' hp
      have hh := hM.has hb
      have hlt : b < w.heap.size := (Array.getElem?_eq_some_iff.1 hh).1
      refine ⟨{ w with heap := w.heap.setIfInBounds b o' }, by simp only [setObj, Sem.run, hh], hM.puts hp rfl rfl rfl (by simp) (by simp [hlt]) fun k hk => ?_⟩
      simp [Array.getElem?_setIfInBounds_ne (Ne.symm hk)]
    cases r with
    | none =>
      obtain ⟨w', hw1, hw2⟩ := hset _ _ (hp (.map (es.push { key := .int .i64 a, val := v, born := clk }) (clk + 1)))
      simp only [Option.map_none] at hr2
      refine ⟨_, w', ?_, hw2, kk _ _ ?_ ?_⟩
      · simp only [execOp, hx, hi, hy, Instr.mapUpdate, Sem.run_bind, hun, Result.andThen_ok, hobj, checkKey_int h2, hr1, hw1, Sem.run_pure]
      · intro e he
        simp only [Array.toList_push, List.mem_append, List.mem_singleton] at he
        rcases he with he | rfl
        · exact hk e he
        · exact ⟨a, rfl⟩
      · intro k'
        rw [Array.toList_push]
        exact mfind_push hk rfl hr2.symm
    | some r =>
      obtain ⟨j, u⟩ := r
      obtain ⟨e, g1, g2, g3⟩ := hr3 j u rfl
      obtain ⟨w', hw1, hw2⟩ := hset _ _ (hp (.map (es.modify j fun e => { e with key := .int .i64 a, val := v }) clk))
      refine ⟨_, w', ?_, hw2, kk _ _ ?_ ?_⟩
      · have hkk : ((es[j]?).map (·.key)).getD (.int .i64 a) = .int .i64 a := by
          rw [show es[j]? = some e by rw [← g1]; simp]; simp [g2]
        have hks : (Instr.keyThatStays (.int .i64 a) (.int .i64 a)).run P w = .ok (.int .i64 a) w := by
          simp [Instr.keyThatStays, Instr.sameBits]
        simp only [execOp, hx, hi, hy, Instr.mapUpdate, Sem.run_bind, hun, Result.andThen_ok, hobj, checkKey_int h2, hr1, hkk, hks, hw1, Sem.run_pure]
      · rw [Array.toList_modify]; exact mkeys_modify hk j
      · intro k'
        rw [Array.toList_modify]
        exact mfind_modify hk g1 g2 g3
end
theorem OSl.form {E s len : Nat} {v : Value} {cs : List Value} {S : Own} (h : OSl E s v cs len S) : ∃ A cap, v = .slice A len cap ∧ len ≤ cap := by
  cases h with
  | nil => exact ⟨_, _, rfl, Nat.le_refl _⟩
  | own _ hc _ => exact ⟨_, _, rfl, hc⟩
theorem OSl.one {E s len : Nat} {v : Value} {cs : List Value} {S : Own} (h : OSl E s v cs len S) : v.oneCell' = true := by
  obtain ⟨A, cap, rfl, _⟩ := h.form; rfl
theorem xs_new {w0 : World} {L : Own} {b E k c : Nat} {cs : List Value} (hb : Has L b (B E cs)) : XS w0 L (.slice (some ⟨b, 0, none⟩) k c) k cs :=
  ⟨_, _, rfl, fun h => (by cases h), fun a ha i u hu => by cases ha; rw [addr_add, Nat.zero_add]; exact Rd.own hb hu⟩
section
variable {P : Program} {n : Nat} {w0 : World} {q : Mo} {ops : Array Oper} {Q : Po} {rest : List Oper} {f : Fm} {L : Own} {d ty : Nat} {pos : String} {af : Array Edge} {g : Option (Nat × Bool)}
/-- Two numbers, the operation's value given. -/
theorem w_binv {op : BinOp} {T T' : Nat} {x y : Operand} {k k' : IntKind} {a b : Int} {v : Value} (hw : Region.wanted ⟨some d, .binOp op T x y T', ty, pos, af, g⟩ (yieldB f ops) = true) (hx : ev f x = .int k a) (hy : ev f y = .int k' b)
    (h : binOp op T (.int k a) (.int k' b) = pure v) (kk : W P n w0 q ops Q rest (upd n f d v) L) : W P n w0 q ops Q (⟨some d, .binOp op T x y T', ty, pos, af, g⟩ :: rest) f L :=
  w_ev hw (v := v) (fun w _ => by simp only [execOp, hx, hy, Sem.run_bind, eqGuard_int, Result.andThen_ok, h, Sem.run_pure]) kk
end
theorem wrap_u64 {j : Int} (h0 : 0 ≤ j) (h1 : j < 18446744073709551616) : IntKind.u64.wrap j = j := by unfold IntKind.wrap; simp [IntKind.bits, IntKind.signed]; omega
theorem wrap_i64 {j : Int} (h0 : -9223372036854775808 ≤ j) (h1 : j ≤ 9223372036854775807) : IntKind.i64.wrap j = j := by unfold IntKind.wrap; simp [IntKind.bits, IntKind.signed]; omega
theorem and_low {T : Nat} {a : Int} (h0 : 0 ≤ a) (h1 : a < 4294967296) : binOp .and T (.int .u64 a) (.int .u64 4294967295) = pure (.int .u64 a) := by
  have e : (BitVec.ofInt 64 a &&& BitVec.ofInt 64 4294967295).toNat = a.toNat := by
    rw [BitVec.toNat_and, BitVec.toNat_ofInt, BitVec.toNat_ofInt]
    have h2 : (a % ((2 ^ 64 : Nat) : Int)).toNat = a.toNat := by rw [Int.emod_eq_of_lt h0 (by omega)]
    have h3 : ((4294967295 : Int) % ((2 ^ 64 : Nat) : Int)).toNat = 2 ^ 32 - 1 := by decide
    rw [h2, h3, Nat.and_two_pow_sub_one_eq_mod]
    exact Nat.mod_eq_of_lt (by omega)
  simp only [binOp, Op.intBits, ne_eq, not_true_eq_false, if_false]
  show (pure (Value.int .u64 (IntKind.u64.wrap (BitVec.ofInt 64 a &&& BitVec.ofInt 64 4294967295).toNat)) : Sem Value) = _
  rw [e, wrap_u64 (by omega) (by omega), Int.toNat_of_nonneg h0]
theorem shr_low {T : Nat} {a : Int} (h0 : 0 ≤ a) (h1 : a < 4294967296) : binOp .shr T (.int .u64 a) (.int .u64 32) = pure (.int .u64 0) := by
  have e : a.fdiv (2 ^ (min (32 : Int).toNat IntKind.u64.bits)) = 0 := by
    show a.fdiv 4294967296 = 0
    rw [Int.fdiv_eq_ediv_of_nonneg _ (by omega)]; omega
  simp only [binOp, Op.shift]
  rw [if_neg (by decide), e]
theorem mul_u64 {T : Nat} {a b : Int} (h0 : 0 ≤ a * b) (h1 : a * b < 18446744073709551616) : binOp .mul T (.int .u64 a) (.int .u64 b) = pure (.int .u64 (a * b)) := by
  simp only [binOp, Op.intArith, ne_eq, not_true_eq_false, if_false, wrap_u64 h0 h1]
theorem add_u64 {T : Nat} {a b : Int} (h0 : 0 ≤ a + b) (h1 : a + b < 18446744073709551616) : binOp .add T (.int .u64 a) (.int .u64 b) = pure (.int .u64 (a + b)) := by
  simp only [binOp, Op.intArith, ne_eq, not_true_eq_false, if_false, wrap_u64 h0 h1]
section
variable {w0 w : World} {L L' : Own}
theorem SlR.xs {α : Type} {enc : α → List Value} {v : Value} {xs : List α} (h : SlR w0 L enc v xs) (he : ∀ x, enc x ≠ [] := by intro x; simp [encI, encB]) : XS w0 L v xs.length (xs.flatMap enc) := by
  obtain ⟨A, cap, h1, h2, h3, h4, h5⟩ := h.ex
  refine ⟨A, cap, h1, fun hn => ?_, fun a ha i c hc => ?_⟩
  · cases xs with
    | nil => rfl
    | cons x xs => have := h4 (by simp); rw [hn] at this; cases this
  · cases xs with
    | nil => simp at hc
    | cons x xs =>
      have h6 := h4 (by simp)
      have h7 := h5 i c hc
      rw [ha] at h6 h7
      rw [Option.some.inj h6, addr_add]; exact h7
theorem XS.sub {v : Value} {n : Nat} {ys : List Value} (h : XS w0 L v n ys) (hs : L.Sublist L') : XS w0 L' v n ys := by
  obtain ⟨A, cap, h1, h2, h3⟩ := h.ex
  exact ⟨A, cap, h1, h2, fun a ha i c hc => (h3 a ha i c hc).sub hs⟩
/-- An owned slice of numbers is read as them. -/
theorem SlR.ofOSl {α : Type} {enc : α → List Value} {E s len : Nat} {v : Value} {xs : List α} {S : Own} (h : OSl E s v (xs.flatMap enc) len S) (hl : xs.length = len) (hb : len ≤ 1152921504606846976) (hs : S.Sublist L) : SlR w0 L enc v xs := by
  generalize hcs : xs.flatMap enc = cs at h
  cases h with
  | nil => exact ⟨none, 0, by rw [hl], by omega, by omega, fun hne => absurd (List.length_eq_zero_iff.1 hl) hne, fun i c hc => by rw [hcs] at hc; simp at hc⟩
  | @own b _ sp _ cap hl' hc hsp =>
    refine ⟨some ⟨b, 0, none⟩, cap, by rw [hl], by omega, by omega, fun _ => rfl, fun i c hc => ?_⟩
    show Rd w0 L ⟨b, 0 + i, none⟩ c
    rw [Nat.zero_add]
    refine (Rd.own .here ?_).sub hs
    rw [hcs] at hc
    rw [List.getElem?_append_left (List.getElem?_eq_some_iff.1 hc).1]; exact hc
end
theorem osl_full {E b n : Nat} {cs cs' : List Value} (h : cs' = cs) (hl : cs.length = n) : OSl E 1 (.slice (some ⟨b, 0, none⟩) n n) cs n [(b, B E cs')] := by
  subst h
  have := OSl.own (E := E) (s := 1) (b := b) (cs := cs') (sp := []) (len := n) (cap := n) (by omega) (Nat.le_refl _) (by simp)
  rwa [List.append_nil] at this
theorem Has.app {S R : Own} {b : Nat} {o : Obj} (h : Has R b o) : Has (S ++ R) b o := by
  induction S with
  | nil => exact h
  | cons x S ih => exact .there ih
theorem Put.app {S R R' : Own} {b : Nat} {o o' : Obj} (h : Put R b o o' R') : Put (S ++ R) b o o' (S ++ R') := by
  induction S with
  | nil => exact h
  | cons x S ih => exact .there ih
theorem Has.appl {S R : Own} {b : Nat} {o : Obj} (h : Has S b o) : Has (S ++ R) b o := Has.of_mem (List.mem_append_left _ h.mem)
/-! Structs of whole numbers, held against each other. -/
def intF (P : Program) : List Field → Nat → Bool
  | [], _ => true
  | f :: fs, i => Nat.beq f.offset i && (f.name != "_") && (match P.underlying f.type with | some (.int _) => true | _ => false) && intF P fs (i + 1)
theorem eqFields_int {P : Program} {d : Nat} {w : World} : ∀ (fs : List Field) (i : Nat) (xs ys : List Int), intF P fs i = true → xs.length = i + fs.length → ys.length = i + fs.length →
    (Op.eqFields (d + 1) (xs.map (Value.int .i64)).toArray (ys.map (Value.int .i64)).toArray fs).run P w = .ok (decide (xs.drop i = ys.drop i)) w
  | [], i, xs, ys, _, h1, h2 => by
    simp only [List.length_nil, Nat.add_zero] at h1 h2
    simp [Op.eqFields, List.drop_of_length_le (Nat.le_of_eq h1), List.drop_of_length_le (Nat.le_of_eq h2)]
  | f :: fs, i, xs, ys, hf, h1, h2 => by
    simp only [intF, Bool.and_eq_true] at hf
    obtain ⟨⟨⟨ho, hn⟩, ht⟩, hr⟩ := hf
    have ho := Nat.eq_of_beq_eq_true ho
    have hn : f.name ≠ "_" := by simpa using hn
    split at ht <;> try (cases ht; done)
    rename_i k hk
    simp only [List.length_cons] at h1 h2
    have hx : i < xs.length := by omega
    have hy : i < ys.length := by omega
    have hagg : (isAgg f.type).run P w = .ok false w := by simp [isAgg, underlying, program, Sem.run, hk]
    have hpx : ∀ zs : List Int, (hz : i < zs.length) → (part f.type (zs.map (Value.int .i64)).toArray f.offset).run P w = .ok (.int .i64 zs[i]) w := fun zs hz => by
      simp only [part, Sem.run_bind, hagg, Result.andThen_ok, Bool.false_eq_true, if_false, ho]
      simp [hz]
    have ih := eqFields_int (P := P) (d := d) (w := w) fs (i + 1) xs ys hr (by omega) (by omega)
    simp only [Op.eqFields, hn, ne_eq, not_false_eq_true, if_true, Sem.run_bind, hpx xs hx, hpx ys hy, Result.andThen_ok, run_equalIn_int w d f.type .i64 k xs[i] ys[i] hk]
    have e1 : xs.drop i = xs[i] :: xs.drop (i + 1) := List.drop_eq_getElem_cons hx
    have e2 : ys.drop i = ys[i] :: ys.drop (i + 1) := List.drop_eq_getElem_cons hy
    rw [e1, e2]
    generalize xs.drop (i + 1) = X at *
    generalize ys.drop (i + 1) = Y at *
    by_cases he : xs[i] = ys[i]
    · have : (xs[i] == ys[i]) = true := by simpa using he
      rw [this, he, if_neg (by decide), ih]
      simp
    · have : (xs[i] == ys[i]) = false := by simpa using he
      rw [this, if_pos (by decide)]
      simp [he]
def SEb (P : Program) (T m : Nat) : Bool := (match P.underlying T with | some (.struct fs) => intF P fs.toList 0 && Nat.beq fs.size m | _ => false) && !P.stoodInHeld T && !P.eqGuardType P.depth T
class CSE (P : Program) (T : Nat) (m : outParam Nat) : Prop where out : SEb P T m = true
theorem CSE.run {P : Program} {T m : Nat} (h : CSE P T m) {w : World} {x y : Operand} {xs ys : List Int} (hx : xs.length = m) (hy : ys.length = m) :
    (Op.equalIn 10000 T (.agg (xs.map (Value.int .i64)).toArray) (.agg (ys.map (Value.int .i64)).toArray)).run P w = .ok (decide (xs = ys)) w ∧ ∀ op, (eqGuard op T x y (.agg (xs.map (Value.int .i64)).toArray) (.agg (ys.map (Value.int .i64)).toArray)).run P w = .ok () w := by
  have h := h.out
  simp only [SEb, Bool.and_eq_true, Bool.not_eq_true'] at h
  obtain ⟨⟨h1, h2⟩, h3⟩ := h
  split at h1 <;> try (cases h1; done)
  rename_i fs hu
  simp only [Bool.and_eq_true] at h1
  have hm := Nat.eq_of_beq_eq_true h1.2
  have hfo : P.fieldsOf T = fs := by simp [Program.fieldsOf, hu]
  constructor
  · have := run_equalIn_struct (P := P) w 9999 T (xs.map (Value.int .i64)).toArray (ys.map (Value.int .i64)).toArray (by rw [hfo]; exact hu) h2
    have e := eqFields_int (P := P) (d := 9998) (w := w) fs.toList 0 xs ys h1.1 (by simp; omega) (by simp; omega)
    rw [this, hfo, e]; simp
  · intro op
    exact run_eqGuard_agg w op T x y _ _ h3
section
variable {P : Program} {n : Nat} {w0 : World} {q : Mo} {ops : Array Oper} {Q : Po} {rest : List Oper} {f : Fm} {L : Own} {d ty : Nat} {pos : String} {af : Array Edge} {g : Option (Nat × Bool)}
theorem x_eqs {T T' m : Nat} [hT : CSE P T m] {x y : Operand} (xs ys : List Int) (hw : Region.wanted ⟨some d, .binOp .eql T x y T', ty, pos, af, g⟩ (yieldB f ops) = true) (hx : ev f x = .agg (xs.map (Value.int .i64)).toArray) (hy : ev f y = .agg (ys.map (Value.int .i64)).toArray) (hlx : xs.length = m) (hly : ys.length = m)
    (kk : W P n w0 q ops Q rest (upd n f d (.bool (decide (xs = ys)))) L) : W P n w0 q ops Q (⟨some d, .binOp .eql T x y T', ty, pos, af, g⟩ :: rest) f L :=
  w_ev hw (v := .bool (decide (xs = ys))) (fun w _ => by
    obtain ⟨h1, h2⟩ := hT.run (w := w) (x := x) (y := y) hlx hly
    simp only [execOp, hx, hy, Sem.run_bind, h2, Result.andThen_ok, run_eql_struct, h1, Sem.run_pure]) kk
theorem x_neqs {T T' m : Nat} [hT : CSE P T m] {x y : Operand} (xs ys : List Int) (hw : Region.wanted ⟨some d, .binOp .neq T x y T', ty, pos, af, g⟩ (yieldB f ops) = true) (hx : ev f x = .agg (xs.map (Value.int .i64)).toArray) (hy : ev f y = .agg (ys.map (Value.int .i64)).toArray) (hlx : xs.length = m) (hly : ys.length = m)
    (kk : W P n w0 q ops Q rest (upd n f d (.bool (decide (xs ≠ ys)))) L) : W P n w0 q ops Q (⟨some d, .binOp .neq T x y T', ty, pos, af, g⟩ :: rest) f L :=
  w_ev hw (v := .bool (decide (xs ≠ ys))) (fun w _ => by
    obtain ⟨h1, h2⟩ := hT.run (w := w) (x := x) (y := y) hlx hly
    simp only [execOp, hx, hy, Sem.run_bind, h2, Result.andThen_ok, run_neq_struct, h1, Sem.run_pure]
    rw [show (!decide (xs = ys)) = decide (xs ≠ ys) by rw [Bool.eq_iff_iff]; simp]) kk
theorem x_neqb {T T' : Nat} {x y : Operand} {a b : Bool} (hu : P.underlying T = some .bool) (hw : Region.wanted ⟨some d, .binOp .neq T x y T', ty, pos, af, g⟩ (yieldB f ops) = true) (hx : ev f x = .bool a) (hy : ev f y = .bool b)
    (kk : W P n w0 q ops Q rest (upd n f d (.bool (decide (a ≠ b)))) L) : W P n w0 q ops Q (⟨some d, .binOp .neq T x y T', ty, pos, af, g⟩ :: rest) f L :=
  w_ev hw (v := .bool (decide (a ≠ b))) (fun w _ => by
    have h1 : (Op.equal T (.bool a) (.bool b)).run P w = .ok (a == b) w := by
      show (Op.equalIn (9999 + 1) T (.bool a) (.bool b)).run P w = _
      exact run_equalIn_bool' w 9999 T a b hu
    have h2 : (eqGuard .neq T x y (.bool a) (.bool b)).run P w = .ok () w := by simp [eqGuard]
    simp only [execOp, hx, hy, Sem.run_bind, h2, Result.andThen_ok, binOp, h1, Sem.run_pure]
    rw [show (!(a == b)) = decide (a ≠ b) by rw [Bool.eq_iff_iff]; simp]) kk
end
theorem Ag.ovs {D D' : List Nat} {g f f1 : Fm} (hs : D'.all (fun d => D.elem d) = true) (h : Ag D f1 f) : Ag D (Sl.ov D' g f1) f := fun j hj => by
  have : D'.elem j = false := by
    cases he : D'.elem j with
    | false => rfl
    | true =>
      have := List.all_eq_true.1 hs j (by simpa using he)
      rw [this] at hj; cases hj
  simp only [Sl.ov, this, cond_false]; exact h j hj
theorem Ag.putn {D : List Nat} {n : Nat} {v : Value} {f f1 : Fm} (h : Ag D f1 f) : Ag D (putf n f1 none v) f := h
inductive EvA (f : Fm) : List Operand → List Value → Prop
  | nil : EvA f [] []
  | cons {x v l l'} (h : ev f x = v) (t : EvA f l l') : EvA f (x :: l) (v :: l')
theorem EvA.eq {f : Fm} {l : List Operand} {l' : List Value} (h : EvA f l l') : l.map (ev f) = l' := by
  induction h with
  | nil => rfl
  | cons h _ ih => simp only [List.map_cons, ih, h]
section
variable {P : Program} {n : Nat} {w0 : World} {q : Mo} {ops : Array Oper} {Q : Po} {rest : List Oper} {f : Fm} {L : Own} {d ty : Nat} {pos : String} {af : Array Edge} {g : Option (Nat × Bool)}
theorem x_fun {fn : Fn} {xs ys : List Operand} {vx vy : List Value} (hw : Region.wanted ⟨some d, .makeFunc fn xs.toArray ys.toArray, ty, pos, af, g⟩ (yieldB f ops) = true) (hx : EvA f xs vx) (hy : EvA f ys vy) (k : W P n w0 q ops Q rest (upd n f d (.func fn vx.toArray vy.toArray)) L) :
    W P n w0 q ops Q (⟨some d, .makeFunc fn xs.toArray ys.toArray, ty, pos, af, g⟩ :: rest) f L :=
  w_ev hw (v := .func fn vx.toArray vy.toArray) (fun w _ => by simp [execOp, Instr.makeFunc, ← hx.eq, ← hy.eq]) k
end
theorem Put.eq_of {L L' : Own} {b : Nat} {o o' : Obj} (h : Put L b o o' L') : o = o' → L = L' := by
  induction h with
  | here => intro e; rw [e]
  | there _ ih => intro e; rw [ih e]
theorem Put.eq_same {L L' : Own} {b : Nat} {o : Obj} (h : Put L b o o L') : L = L' := h.eq_of rfl
theorem Put.same {L : Own} {b : Nat} {o : Obj} (h : Has L b o) : Put L b o o L := by
  induction h with
  | here => exact .here
  | there _ ih => exact .there ih
theorem w_lit {P : Program} {n : Nat} {w0 : World} {q : Mo} {ops : Array Oper} {Q : Po} {rest : List Oper} {f : Fm} {L : Own} {o : Oper} {i d : Nat} {want : Bool} (b : Bool) (hg : o.guard = some (i, want)) (hd : (ops[i]?).bind (·.dst) = some d) (hv : f d = .bool b)
    (k : W P n w0 q ops Q (o :: rest) f L) : W P n w0 q ops Q (o :: rest) f L := k
end Go.Proofs.Ytnmhhelcaibdoaa.Sl
