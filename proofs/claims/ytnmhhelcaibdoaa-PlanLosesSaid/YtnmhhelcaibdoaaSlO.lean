/- Maps keyed by a struct of two whole numbers: the rules of the lists. -/
import Derived.Test.YtnmhhelcaibdoaaSlN
namespace Go.Proofs.Ytnmhhelcaibdoaa.Sl
open Go Go.RowKit
set_option linter.unusedVariables false
set_option linter.unusedSimpArgs false
class CMS (P : Program) (T : Nat) (K : outParam Nat) : Prop where out : ∃ E fs, P.underlying T = some (.map K E) ∧ P.underlying K = some (.struct fs) ∧ ((P.info? E).bind (·.zero)) = some (.int .i64 0)
theorem PM.ks {es : List MapEntry} {clk : Nat} {φ : Int × Int → Option Int} (h : PM es clk φ) : ∀ e ∈ es, ∃ k, e.key = kv k := fun e he => by obtain ⟨k, _, h1, _⟩ := h.keys e he; exact ⟨k, h1⟩
theorem PM.look {P : Program} {K : Nat} [CSE P K 2] {w : World} {fs : Array Field} (hu : P.underlying K = some (.struct fs)) {a : Int × Int} {es : List MapEntry} {clk : Nat} {φ : Int × Int → Option Int} (h : PM es clk φ) :
    ((Instr.findKey K (kv a) es).run P w = .ok none w ∧ φ a = none ∧ ∀ e ∈ es, e.key ≠ kv a) ∨ ∃ j e v, (Instr.findKey K (kv a) es).run P w = .ok (some (j, .int .i64 v)) w ∧ φ a = some v ∧ es[j]? = some e ∧ e.key = kv a := by
  rcases findKey_kv (P := P) (w := w) hu (a := a) h.ks with ⟨h1, h2⟩ | ⟨j, e, h1, h2, h3⟩
  · left
    refine ⟨h1, ?_, h2⟩
    cases hφ : φ a with
    | none => rfl
    | some v => obtain ⟨e, he, g⟩ := h.all a v hφ; exact absurd g (h2 e he)
  · right
    obtain ⟨k, v, g1, g2, g3⟩ := h.keys e (List.mem_of_getElem? h2)
    have hka := kv_inj (g1.symm.trans h3)
    subst hka
    rw [g2] at h1
    exact ⟨j, e, v, h1, g3, h2, h3⟩
section
variable {P : Program} {n : Nat} {w0 : World} {q : Mo} {ops : Array Oper} {Q : Po} {rest : List Oper} {f : Fm} {L : Own} {d ty : Nat} {dst : Option Nat} {pos : String} {af : Array Edge} {g : Option (Nat × Bool)}
theorem Mem.setMap {w : World} (hM : Mem w0 w L) {b : Nat} {es : Array MapEntry} {clk : Nat} {o' : Obj} {L' : Own} (hp : Put L b (.map es clk) o' L') : ∃ w', (setObj b o').run P w = .ok () w' ∧ Mem w0 w' L' := by
  have hh := hM.has hp.has
  have hlt : b < w.heap.size := (Array.getElem?_eq_some_iff.1 hh).1
  refine ⟨{ w with heap := w.heap.setIfInBounds b o' }, by simp only [setObj, Sem.run, hh], hM.puts hp rfl rfl rfl (by simp) (by simp [hlt]) fun k hk => ?_⟩
  simp [Array.getElem?_setIfInBounds_ne (Ne.symm hk)]
theorem x_lk2 {T K : Nat} [hT : CMS P T K] [hK : CSE P K 2] {x i : Operand} {b : Nat} {es : Array MapEntry} {clk : Nat} {φ : Int × Int → Option Int} (a : Int × Int) (hw : Region.wanted ⟨some d, .lookup T x i true, ty, pos, af, g⟩ (yieldB f ops) = true) (hx : ev f x = .map (some b)) (hi : ev f i = kv a) (hb : Has L b (.map es clk)) (hk : PM es.toList clk φ)
    (kk : W P n w0 q ops Q rest (upd n f d (.tuple #[.int .i64 ((φ a).getD 0), .bool (φ a).isSome])) L) : W P n w0 q ops Q (⟨some d, .lookup T x i true, ty, pos, af, g⟩ :: rest) f L :=
  w_ev hw (v := .tuple #[.int .i64 ((φ a).getD 0), .bool (φ a).isSome]) (fun w hM => by
    obtain ⟨E, fs, h1, h2, h3⟩ := hT.out
    have hobj := Mem.obj (P := P) hM hb (by intro c e z h; cases h)
    have hun : (underlying T).run P w = .ok (.map K E) w := by simp [underlying, program, Sem.run, h1]
    have hz : (zeroValue E).run P w = .ok (.int .i64 0) w := by
      cases hi : P.info? E with
      | none => simp [hi] at h3
      | some inf => simp only [hi, Option.bind_some] at h3; simp [zeroValue, typeInfo, program, Sem.run, hi, h3]
    rcases hk.look (P := P) (w := w) h2 (a := a) with ⟨g1, g2, g3⟩ | ⟨j, e, v, g1, g2, g3, g4⟩
    · simp only [execOp, hx, hi, Instr.lookup, Sem.run_bind, hun, Result.andThen_ok, hobj, Sem.run_pure, checkKey_kv, g1, hz, g2]
      rfl
    · simp only [execOp, hx, hi, Instr.lookup, Sem.run_bind, hun, Result.andThen_ok, hobj, Sem.run_pure, checkKey_kv, g1, g2]
      rfl) kk
theorem keyStays_kv {w : World} {a : Int × Int} : (Instr.keyThatStays (kv a) (kv a)).run P w = .ok (kv a) w := by
  have : Instr.sameBits 10000 (kv a) (kv a) = true := by
    show Instr.sameBits (9998 + 1 + 1) _ _ = true
    simp [Instr.sameBits]
  simp only [Instr.keyThatStays, this, if_true, Sem.run_pure]
theorem arr_getD {es : Array MapEntry} {j : Nat} {e : MapEntry} {a : Int × Int} (h : es.toList[j]? = some e) (hk : e.key = kv a) : ((es[j]?).map (·.key)).getD (kv a) = kv a := by
  rw [show es[j]? = some e by rw [← h]; simp]; simp [hk]
theorem mod_set {es : Array MapEntry} {j : Nat} {e : MapEntry} {fn : MapEntry → MapEntry} (h : es.toList[j]? = some e) : (es.modify j fn).toList = es.toList.set j (fn e) := by
  rw [Array.toList_modify]
  apply List.ext_getElem?
  intro i
  have hl := (List.getElem?_eq_some_iff.1 h).1
  rw [List.getElem?_modify, List.getElem?_set]
  by_cases hij : j = i
  · subst hij; rw [h]; simp [show j < es.size by simpa using hl]
  · rw [if_neg hij]; simp [hij]
theorem x_mu2 {T K : Nat} [hT : CMS P T K] [hK : CSE P K 2] {x i y : Operand} {b : Nat} {es : Array MapEntry} {clk : Nat} {φ : Int × Int → Option Int} (a : Int × Int) (v : Int) (hw : Region.wanted ⟨dst, .mapUpdate T x i y, ty, pos, af, g⟩ (yieldB f ops) = true) (hx : ev f x = .map (some b)) (hi : ev f i = kv a) (hy : ev f y = .int .i64 v) {Lf : Obj → Own} (hp : ∀ o', Put L b (.map es clk) o' (Lf o')) (hk : PM es.toList clk φ)
    (kk : ∀ es' clk', PM es'.toList clk' (fset φ a (some v)) → W P n w0 .lex ops Q rest (putf n f dst undef) (Lf (.map es' clk'))) : W P n w0 .lex ops Q (⟨dst, .mapUpdate T x i y, ty, pos, af, g⟩ :: rest) f L :=
  w_actu hw fun w hM => by
    obtain ⟨E, fs, h1, h2, h3⟩ := hT.out
    have hobj := Mem.obj (P := P) hM (hp (.map es clk)).has (by intro c e z h; cases h)
    have hun : (underlying T).run P w = .ok (.map K E) w := by simp [underlying, program, Sem.run, h1]
    rcases hk.look (P := P) (w := w) h2 (a := a) with ⟨g1, g2, g3⟩ | ⟨j, e, v', g1, g2, g3, g4⟩
    · obtain ⟨w', hw1, hw2⟩ := Mem.setMap (P := P) hM (hp (.map (es.push { key := kv a, val := .int .i64 v, born := clk }) (clk + 1)))
      refine ⟨_, w', ?_, hw2, kk _ _ ?_⟩
      · simp only [execOp, hx, hi, hy, Instr.mapUpdate, Sem.run_bind, hun, Result.andThen_ok, hobj, checkKey_kv, g1, hw1, Sem.run_pure]
      · rw [Array.toList_push]; exact hk.push g3
    · obtain ⟨w', hw1, hw2⟩ := Mem.setMap (P := P) hM (hp (.map (es.modify j fun e => { e with key := kv a, val := .int .i64 v }) clk))
      refine ⟨_, w', ?_, hw2, kk _ _ ?_⟩
      · simp only [execOp, hx, hi, hy, Instr.mapUpdate, Sem.run_bind, hun, Result.andThen_ok, hobj, checkKey_kv, g1, arr_getD g3 g4, keyStays_kv, hw1, Sem.run_pure]
      · rw [mod_set g3]; exact hk.put g3 g4 rfl
theorem x_del {T K : Nat} [hT : CMS P T K] [hK : CSE P K 2] {x y : Operand} {b : Nat} {es : Array MapEntry} {clk : Nat} {φ : Int × Int → Option Int} (a : Int × Int) (hw : Region.wanted ⟨dst, .call { callee := .builtin .delete, args := #[x, y], argTypes := #[T, K] }, ty, pos, af, g⟩ (yieldB f ops) = true) (hx : ev f x = .map (some b)) (hi : ev f y = kv a) {Lf : Obj → Own} (hp : ∀ o', Put L b (.map es clk) o' (Lf o')) (hk : PM es.toList clk φ)
    (kk : ∀ es' clk', PM es'.toList clk' (fset φ a none) → W P n w0 .lex ops Q rest (putf n f dst (.tuple #[])) (Lf (.map es' clk'))) : W P n w0 .lex ops Q (⟨dst, .call { callee := .builtin .delete, args := #[x, y], argTypes := #[T, K] }, ty, pos, af, g⟩ :: rest) f L :=
  w_act hw fun w hM => by
    obtain ⟨E, fs, h1, h2, h3⟩ := hT.out
    have hobj := Mem.obj (P := P) hM (hp (.map es clk)).has (by intro c e z h; cases h)
    have hun : (underlying T).run P w = .ok (.map K E) w := by simp [underlying, program, Sem.run, h1]
    rcases hk.look (P := P) (w := w) h2 (a := a) with ⟨g1, g2, g3⟩ | ⟨j, e, v', g1, g2, g3, g4⟩
    · obtain ⟨w', hw1, hw2⟩ := Mem.setMap (P := P) hM (hp (.map es clk))
      refine ⟨.tuple #[], _, w', ?_, hw2, kk _ _ (hk.same g3)⟩
      simp only [execOp, resolve, invoke, builtin, Sem.run_bind, Sem.run_pure, Result.andThen_ok, List.map_toArray, List.map_cons, List.map_nil, hx, hi, Builtin.delete_]
      simp [hun, hobj, checkKey_kv, g1, hw1]
    · obtain ⟨w', hw1, hw2⟩ := Mem.setMap (P := P) hM (hp (.map (es.eraseIdxIfInBounds j) clk))
      refine ⟨.tuple #[], _, w', ?_, hw2, kk _ _ ?_⟩
      · simp only [execOp, resolve, invoke, builtin, Sem.run_bind, Sem.run_pure, Result.andThen_ok, List.map_toArray, List.map_cons, List.map_nil, hx, hi, Builtin.delete_]
        simp [hun, hobj, checkKey_kv, g1, hw1]
      · have hl : j < es.size := by have := (List.getElem?_eq_some_iff.1 g3).1; simpa using this
        rw [show (es.eraseIdxIfInBounds j).toList = es.toList.eraseIdx j by simp [Array.eraseIdxIfInBounds, hl]]
        exact hk.drop g3 g4
theorem x_me {T K : Nat} [hT : CMS P T K] [hK : CSE P K 2] {x i : Operand} {b : Nat} {es : Array MapEntry} {clk : Nat} {φ : Int × Int → Option Int} (a : Int × Int) (hw : Region.wanted ⟨some d, .mapEntry T x i, ty, pos, af, g⟩ (yieldB f ops) = true) (hx : ev f x = .map (some b)) (hi : ev f i = kv a) {Lf : Obj → Own} (hp : ∀ o', Put L b (.map es clk) o' (Lf o')) (hk : PM es.toList clk φ)
    (kk : ∀ es' clk' v0 (st : Nat), PM es'.toList clk' (fset φ a (some v0)) → (∃ e ∈ es'.toList, e.key = kv a ∧ e.born = st) → W P n w0 .lex ops Q rest (upd n f d (.tuple #[.int .i64 v0, .int .i64 st])) (Lf (.map es' clk'))) : W P n w0 .lex ops Q (⟨some d, .mapEntry T x i, ty, pos, af, g⟩ :: rest) f L :=
  w_act hw fun w hM => by
    obtain ⟨E, fs, h1, h2, h3⟩ := hT.out
    have hobj := Mem.obj (P := P) hM (hp (.map es clk)).has (by intro c e z h; cases h)
    have hun : (underlying T).run P w = .ok (.map K E) w := by simp [underlying, program, Sem.run, h1]
    have hz : (zeroValue E).run P w = .ok (.int .i64 0) w := by
      cases hi : P.info? E with
      | none => simp [hi] at h3
      | some inf => simp only [hi, Option.bind_some] at h3; simp [zeroValue, typeInfo, program, Sem.run, hi, h3]
    rcases hk.look (P := P) (w := w) h2 (a := a) with ⟨g1, g2, g3⟩ | ⟨j, e, v', g1, g2, g3, g4⟩
    · obtain ⟨w', hw1, hw2⟩ := Mem.setMap (P := P) hM (hp (.map (es.push { key := kv a, val := .int .i64 0, born := clk }) (clk + 1)))
      refine ⟨.tuple #[.int .i64 0, .int .i64 clk], _, w', ?_, hw2, kk _ _ 0 clk ?_ ⟨_, by rw [Array.toList_push]; exact List.mem_append_right _ (List.mem_singleton.2 rfl), rfl, rfl⟩⟩
      · simp only [execOp, hx, hi, Instr.mapEntry, Sem.run_bind, hun, Result.andThen_ok, hobj, checkKey_kv, g1, hz, hw1, Sem.run_pure, goInt]
      · rw [Array.toList_push]; exact hk.push g3
    · obtain ⟨k, v2, q1, q2, q3⟩ := hk.keys e (List.mem_of_getElem? g3)
      have hka := kv_inj (q1.symm.trans g4)
      subst hka
      rw [g2] at q3; cases q3
      obtain ⟨w', hw1, hw2⟩ := Mem.setMap (P := P) hM (hp (.map (es.modify j fun e => { e with key := kv k }) clk))
      have hb : ((es[j]?).map (fun x => (x.born : Int))).getD 0 = e.born := by rw [show es[j]? = some e by rw [← g3]; simp]; rfl
      have hl := (List.getElem?_eq_some_iff.1 g3).1
      refine ⟨.tuple #[.int .i64 v', .int .i64 e.born], _, w', ?_, hw2, kk _ _ v' e.born ?_ ?_⟩
      · simp only [execOp, hx, hi, Instr.mapEntry, Sem.run_bind, hun, Result.andThen_ok, hobj, checkKey_kv, g1, arr_getD g3 g4, keyStays_kv, hw1, Sem.run_pure, goInt, hb]
      · rw [mod_set g3]
        exact hk.put g3 g4 (by rw [← q2])
      · rw [mod_set g3]
        exact ⟨{ e with key := kv k }, List.mem_iff_getElem.2 ⟨j, by simpa using hl, by rw [List.getElem_set, if_pos rfl]⟩, rfl, rfl⟩
theorem x_es {T : Nat} {x s y : Operand} {b : Nat} {es : Array MapEntry} {clk : Nat} {φ : Int × Int → Option Int} (a : Int × Int) (v : Int) {v0 : Int} (st : Nat) (hw : Region.wanted ⟨dst, .entryStore T x s y, ty, pos, af, g⟩ (yieldB f ops) = true) (hx : ev f x = .map (some b)) (hs : ev f s = .int .i64 st) (hy : ev f y = .int .i64 v) {Lf : Obj → Own} (hp : ∀ o', Put L b (.map es clk) o' (Lf o')) (hk : PM es.toList clk (fset φ a (some v0))) (he : ∃ e ∈ es.toList, e.key = kv a ∧ e.born = st)
    (kk : ∀ es' clk', PM es'.toList clk' (fset φ a (some v)) → W P n w0 .lex ops Q rest (putf n f dst undef) (Lf (.map es' clk'))) : W P n w0 .lex ops Q (⟨dst, .entryStore T x s y, ty, pos, af, g⟩ :: rest) f L :=
  w_actu hw fun w hM => by
    have hobj := Mem.obj (P := P) hM (hp (.map es clk)).has (by intro c e z h; cases h)
    obtain ⟨e, hm, e1, e2⟩ := he
    obtain ⟨j, hj⟩ := List.mem_iff_getElem?.1 hm
    have hl := (List.getElem?_eq_some_iff.1 hj).1
    have hf : es.findIdx? (fun e => (e.born : Int) == (st : Int)) = some j := by
      rw [Array.findIdx?_eq_some_iff_getElem]
      refine ⟨by simpa using hl, ?_, fun i hi => ?_⟩
      · rw [← Array.getElem_toList, (List.getElem?_eq_some_iff.1 hj).2, e2]; simp
      · have := pw_get hk.born (fun _ _ => Ne.symm) hj (List.getElem?_eq_getElem (show i < es.toList.length by omega)) (by omega)
        rw [e2] at this
        have h' : es.toList[i].born ≠ st := fun h => this h.symm
        rw [Array.getElem_toList] at h'
        simp only [beq_iff_eq]
        omega
    obtain ⟨w', hw1, hw2⟩ := Mem.setMap (P := P) hM (hp (.map (es.modify j fun e => { e with val := .int .i64 v }) clk))
    refine ⟨_, w', ?_, hw2, kk _ _ ?_⟩
    · simp only [execOp, hx, hs, hy, Instr.entryStore, Sem.run_bind, Result.andThen_ok, hobj, asInt, asIntOf, Sem.run_pure, hf, hw1]
    · rw [mod_set hj, ← fset_fset (φ := φ) (x := some v0)]
      exact hk.put hj e1 (by rw [← e1])
end
theorem x_lkc {P : Program} {n : Nat} {w0 : World} {q : Mo} {ops : Array Oper} {Q : Po} {rest : List Oper} {f : Fm} {L : Own} {d ty : Nat} {pos : String} {af : Array Edge} {g : Option (Nat × Bool)} {T : Nat} {z : Value} [hT : CMI P T z] {x i : Operand} {b : Nat} {es : Array MapEntry} {clk : Nat} {a : Int} (hw : Region.wanted ⟨some d, .lookup T x i true, ty, pos, af, g⟩ (yieldB f ops) = true) (hx : ev f x = .map (some b)) (hi : ev f i = .int .i64 a) (hb : Has L b (.map es clk)) (hk : mkeys es.toList)
    (kk : W P n w0 q ops Q rest (upd n f d (.tuple #[(mfind a es.toList).getD z, .bool (mfind a es.toList).isSome])) L) : W P n w0 q ops Q (⟨some d, .lookup T x i true, ty, pos, af, g⟩ :: rest) f L :=
  w_ev hw (v := .tuple #[(mfind a es.toList).getD z, .bool (mfind a es.toList).isSome]) (fun w hM => by
    obtain ⟨K, E, k, h1, h2, h3⟩ := hT.out
    obtain ⟨r, hr1, hr2, _⟩ := findKey_int (P := P) (a := a) (w := w) h2 hk
    have hobj := Mem.obj (P := P) hM hb (by intro c e z h; cases h)
    have hun : (underlying T).run P w = .ok (.map K E) w := by simp [underlying, program, Sem.run, h1]
    have hz : (zeroValue E).run P w = .ok z w := by
      cases hi : P.info? E with
      | none => simp [hi] at h3
      | some inf => simp only [hi, Option.bind_some] at h3; simp [zeroValue, typeInfo, program, Sem.run, hi, h3]
    simp only [execOp, hx, hi, Instr.lookup, Sem.run_bind, hun, Result.andThen_ok, hobj, Sem.run_pure, checkKey_int h2, hr1]
    rw [← hr2]
    cases r with
    | none => simp [hz]
    | some r => simp) kk
end Go.Proofs.Ytnmhhelcaibdoaa.Sl
