/- The walk's own calculus, part five: what types and functions are, found by instances. -/
import Derived.Test.YtnmhhelcaibdoaaSl4
namespace Go.Proofs.Ytnmhhelcaibdoaa.Sl
open Go Go.RowKit
set_option linter.unusedVariables false
set_option linter.unusedSimpArgs false

class CFA (P : Program) (T i : Nat) (k : outParam Nat) : Prop where out : FA P T i k
class CL1 (P : Program) (T : Nat) : Prop where out : L1 P T
class CLA (P : Program) (T : Nat) (m : outParam Nat) : Prop where out : LA P T m
class CSC (P : Program) (T : Nat) (m : outParam Nat) : Prop where out : SC P T m
class CAL (P : Program) (T : Nat) (zs : outParam (List Value)) : Prop where out : AL P T zs
class CSZ (P : Program) (T : Nat) (s : outParam Nat) : Prop where out : SZ P T s
class CSL (P : Program) (T : Nat) (E : outParam Nat) : Prop where out : P.underlying T = some (.slice E)
class CBT (P : Program) (T : Nat) (zs : outParam (List Value)) (pl : outParam (List (Nat × Nat))) : Prop where out : BT P T zs pl
class CFN (P : Program) (k : Nat) : Prop where out : FNb P k = true

def isAggD : TypeDesc → Bool
  | .struct _ | .array _ _ => true
  | _ => false
def FAb (P : Program) (T i k : Nat) : Bool :=
  match P.underlying T with
  | some (.struct fs) => match fs[i]? with
    | some fl => Nat.beq fl.offset k && (match P.info? fl.type with | some inf => Nat.blt 0 inf.size | none => false)
    | none => false
  | _ => false
theorem CFA.of {P : Program} {T i k : Nat} (h : FAb P T i k = true) : CFA P T i k := by
  unfold FAb at h
  split at h <;> try (cases h; done)
  rename_i fs hu
  split at h <;> try (cases h; done)
  rename_i fl hf
  simp only [Bool.and_eq_true] at h
  obtain ⟨h1, h2⟩ := h
  split at h2 <;> try (cases h2; done)
  rename_i inf hi
  have h2 : 0 < inf.size := by simpa using h2
  exact ⟨FA.mk (s := inf.size - 1) hu hf (Nat.eq_of_beq_eq_true h1) (by rw [hi]; simp only [Option.map_some, Option.some.injEq]; omega)⟩
def L1b (P : Program) (T : Nat) : Bool := match P.underlying T with | some d => !isAggD d | none => false
theorem CL1.of {P : Program} {T : Nat} (h : L1b P T = true) : CL1 P T := by
  unfold L1b at h
  split at h <;> try (cases h; done)
  rename_i d hd
  exact ⟨L1.mk hd (by cases d <;> simp_all [isAggD])⟩
def LAb (P : Program) (T m : Nat) : Bool := (match P.underlying T with | some d => isAggD d | none => false) && (match P.info? T with | some i => Nat.beq i.size m | none => false)
theorem CLA.of {P : Program} {T m : Nat} (h : LAb P T m = true) : CLA P T m := by
  unfold LAb at h
  simp only [Bool.and_eq_true] at h
  obtain ⟨h1, h2⟩ := h
  split at h1 <;> try (cases h1; done)
  rename_i d hd
  split at h2 <;> try (cases h2; done)
  rename_i i hi
  exact ⟨LA.mk hd (by cases d <;> simp_all [isAggD]) (by rw [hi]; simp only [Option.map_some, Option.some.injEq]; exact Nat.eq_of_beq_eq_true h2)⟩
def SCb (P : Program) (T m : Nat) : Bool := match P.info? T with | some i => Nat.beq i.size m | none => false
theorem CSC.of {P : Program} {T m : Nat} (h : SCb P T m = true) : CSC P T m := by
  unfold SCb at h
  split at h <;> try (cases h; done)
  rename_i i hi
  exact ⟨by unfold SC; rw [hi]; simp only [Option.map_some, Option.some.injEq]; exact Nat.eq_of_beq_eq_true h⟩
theorem CAL.of {P : Program} {T : Nat} {zs : List Value} (h : ((P.info? T).bind (·.zero)).map Value.cells = some zs.toArray) : CAL P T zs := by
  cases hi : P.info? T with
  | none => simp [hi] at h
  | some inf =>
    simp only [hi, Option.bind_some] at h
    cases hz : inf.zero with
    | none => simp [hz] at h
    | some z =>
      simp only [hz, Option.map_some, Option.some.injEq] at h
      exact ⟨AL.mk hi hz h⟩
theorem CSZ.of {P : Program} {T E s : Nat} (h : P.underlying T = some (.slice E)) (h2 : SCb P E s = true) : CSZ P T s := by
  have := (CSC.of h2).out
  exact ⟨E, h, this⟩
theorem CBT.of {P : Program} {T : Nat} {zs : List Value} {pl : List (Nat × Nat)} {fs : Array Field} (h : P.underlying T = some (.struct fs)) (hz : ((P.info? T).bind (·.zero)).map Value.cells = some zs.toArray)
    (hp : fs.map (fun fl => (fl.offset, ((P.info? fl.type).map (·.size)).getD 0)) = pl.toArray) (ha : fs.all (fun fl => (P.info? fl.type).isSome) = true) : CBT P T zs pl := by
  cases hi : P.info? T with
  | none => simp [hi] at hz
  | some inf =>
    simp only [hi, Option.bind_some] at hz
    cases hzz : inf.zero with
    | none => simp [hzz] at hz
    | some z =>
      simp only [hzz, Option.map_some, Option.some.injEq] at hz
      exact ⟨fs, inf, z, h, hi, hzz, hz, hp, ha⟩

section
variable {P : Program} {n : Nat} {w0 : World} {q : Mo} {ops : Array Oper} {Q : Po} {rest : List Oper} {f : Fm} {L : Own}
variable {d ty : Nat} {dst : Option Nat} {pos : String} {af : Array Edge} {g : Option (Nat × Bool)}
theorem x_fa {T i k : Nat} [hF : CFA P T i k] {x : Operand} {b o : Nat} (hw : Region.wanted ⟨some d, .fieldAddr T x i, ty, pos, af, g⟩ (yieldB f ops) = true) (hx : ev f x = .pointer (some ⟨b, o, none⟩))
    (kk : W P n w0 q ops Q rest (upd n f d (.pointer (some ⟨b, o + k, none⟩))) L) : W P n w0 q ops Q (⟨some d, .fieldAddr T x i, ty, pos, af, g⟩ :: rest) f L := w_fa hw hx hF.out kk
theorem x_ldo {T T' : Nat} [hT : CL1 P T] {x : Operand} {b o : Nat} {cs : List Value} {v : Value} (hw : Region.wanted ⟨some d, .load T x, ty, pos, af, g⟩ (yieldB f ops) = true) (hx : ev f x = .pointer (some ⟨b, o, none⟩)) (hb : Has L b (B T' cs)) (hv : cs[o]? = some v)
    (k : W P n w0 q ops Q rest (upd n f d v) L) : W P n w0 q ops Q (⟨some d, .load T x, ty, pos, af, g⟩ :: rest) f L := w_ldo hw hT.out hx hb hv k
theorem x_ld {T : Nat} [hT : CL1 P T] {x : Operand} {ad : Addr} {v : Value} (hw : Region.wanted ⟨some d, .load T x, ty, pos, af, g⟩ (yieldB f ops) = true) (hx : ev f x = .pointer (some ad)) (hc : Rd w0 L ad v)
    (k : W P n w0 q ops Q rest (upd n f d v) L) : W P n w0 q ops Q (⟨some d, .load T x, ty, pos, af, g⟩ :: rest) f L := w_ld hw hT.out hx hc k
theorem x_ldao {T T' m : Nat} [hT : CLA P T m] {x : Operand} {b o : Nat} {cs : List Value} (hw : Region.wanted ⟨some d, .load T x, ty, pos, af, g⟩ (yieldB f ops) = true) (hx : ev f x = .pointer (some ⟨b, o, none⟩)) (hb : Has L b (B T' cs)) (hl : Nat.beq (piece cs o m).length m = true)
    (k : W P n w0 q ops Q rest (upd n f d (.agg (piece cs o m).toArray)) L) : W P n w0 q ops Q (⟨some d, .load T x, ty, pos, af, g⟩ :: rest) f L := w_ldao hw hT.out hx hb rfl (Nat.eq_of_beq_eq_true hl) k
theorem x_lda {T m : Nat} [hT : CLA P T m] {x : Operand} {ad : Addr} {vs : List Value} (hw : Region.wanted ⟨some d, .load T x, ty, pos, af, g⟩ (yieldB f ops) = true) (hx : ev f x = .pointer (some ad)) (hl : vs.length = m) (hc : ∀ i v, vs[i]? = some v → Rd w0 L (ad.add i) v)
    (k : W P n w0 q ops Q rest (upd n f d (.agg vs.toArray)) L) : W P n w0 q ops Q (⟨some d, .load T x, ty, pos, af, g⟩ :: rest) f L := w_lda hw hT.out hx hl hc k
theorem x_ix {T s : Nat} [hS : CSZ P T s] {x i : Operand} {k : IntKind} {b o : Nat} {len cap : Nat} {j : Int} (hw : Region.wanted ⟨some d, .indexAddr T x i, ty, pos, af, g⟩ (yieldB f ops) = true) (hx : ev f x = .slice (some ⟨b, o, none⟩) len cap) (hi : ev f i = .int k j)
    (h0 : 0 ≤ j) (h1 : j < len) (kk : W P n w0 q ops Q rest (upd n f d (.pointer (some ⟨b, o + j.toNat * s, none⟩))) L) : W P n w0 q ops Q (⟨some d, .indexAddr T x i, ty, pos, af, g⟩ :: rest) f L := by
  refine w_ix hw hS.out hx hi h0 h1 ?_; rw [addr_add]; exact kk
theorem x_len {T E : Nat} [hS : CSL P T E] {x : Operand} {a : Option Addr} {len cap : Nat} (hw : Region.wanted ⟨some d, .call { callee := .builtin .len, args := #[x], argTypes := #[T] }, ty, pos, af, g⟩ (yieldB f ops) = true) (hx : ev f x = .slice a len cap)
    (kk : W P n w0 q ops Q rest (upd n f d (.int .i64 len)) L) : W P n w0 q ops Q (⟨some d, .call { callee := .builtin .len, args := #[x], argTypes := #[T] }, ty, pos, af, g⟩ :: rest) f L := w_len hw hS.out hx kk
theorem x_bld {T : Nat} {parts : List (Nat × Operand)} {pv : List (Nat × Value)} {zs : List Value} {pl : List (Nat × Nat)} [hT : CBT P T zs pl] (hw : Region.wanted ⟨some d, .build T parts.toArray, ty, pos, af, g⟩ (yieldB f ops) = true) (hp : EvL f parts pv) (hf : fitL pl zs.length pv = true)
    (kk : W P n w0 q ops Q rest (upd n f d (.agg (fillL pl zs pv).toArray)) L) : W P n w0 q ops Q (⟨some d, .build T parts.toArray, ty, pos, af, g⟩ :: rest) f L := w_bld hw hT.out hp hf kk
theorem x_al {T : Nat} {zs : List Value} [hA : CAL P T zs] (hw : Region.wanted ⟨some d, .alloc T, ty, pos, af, g⟩ (yieldB f ops) = true)
    (k : ∀ b, W P n w0 .lex ops Q rest (upd n f d (.pointer (some ⟨b, 0, none⟩))) ((b, B T zs) :: L)) : W P n w0 .lex ops Q (⟨some d, .alloc T, ty, pos, af, g⟩ :: rest) f L := w_al hw hA.out k
/-- A box of one cell; of an aggregate. -/
theorem x_box1 {T : Nat} [hT : CL1 P T] {x : Operand} {v : Value} (hw : Region.wanted ⟨some d, .box T x, ty, pos, af, g⟩ (yieldB f ops) = true) (hx : ev f x = v) (hv : v.oneCell' = true)
    (k : ∀ b, W P n w0 .lex ops Q rest (upd n f d (.pointer (some ⟨b, 0, none⟩))) ((b, B T [v]) :: L)) : W P n w0 .lex ops Q (⟨some d, .box T x, ty, pos, af, g⟩ :: rest) f L :=
  w_box hw hx (by cases v <;> simp_all [Value.cells, Value.oneCell']) k
theorem x_boxa {T : Nat} {x : Operand} {cs : List Value} (hw : Region.wanted ⟨some d, .box T x, ty, pos, af, g⟩ (yieldB f ops) = true) (hx : ev f x = .agg cs.toArray)
    (k : ∀ b, W P n w0 .lex ops Q rest (upd n f d (.pointer (some ⟨b, 0, none⟩))) ((b, B T cs) :: L)) : W P n w0 .lex ops Q (⟨some d, .box T x, ty, pos, af, g⟩ :: rest) f L := w_box hw hx rfl k
theorem x_st1 {T T' : Nat} [hT : CSC P T 1] {x y : Operand} {b o : Nat} {cs : List Value} {v : Value} {L' : Own} (hw : Region.wanted ⟨dst, .store T x y, ty, pos, af, g⟩ (yieldB f ops) = true)
    (hx : ev f x = .pointer (some ⟨b, o, none⟩)) (hy : ev f y = v) (ho : v.oneCell' = true) (hp : Put L b (B T' cs) (B T' (cs.set o v)) L') (hl : Nat.blt o cs.length = true)
    (k : W P n w0 .lex ops Q rest (putf n f dst undef) L') : W P n w0 .lex ops Q (⟨dst, .store T x y, ty, pos, af, g⟩ :: rest) f L := w_st1 hw hT.out hx hy ho hp (by simpa using hl) k
/-- A whole variable, or a part of one. -/
theorem x_stw {T T' m : Nat} [hT : CSC P T m] {x y : Operand} {b : Nat} {cs vs : List Value} {L' : Own} (hw : Region.wanted ⟨dst, .store T x y, ty, pos, af, g⟩ (yieldB f ops) = true)
    (hx : ev f x = .pointer (some ⟨b, 0, none⟩)) (hy : ev f y = .agg vs.toArray) (hm : Nat.beq vs.length m = true) (ho : vs.all Value.oneCell' = true) (hp : Put L b (B T' cs) (B T' vs) L') (hl : Nat.beq vs.length cs.length = true)
    (k : W P n w0 .lex ops Q rest (putf n f dst undef) L') : W P n w0 .lex ops Q (⟨dst, .store T x y, ty, pos, af, g⟩ :: rest) f L := w_stw hw hT.out hx hy rfl (Nat.eq_of_beq_eq_true hm) ho hp (Nat.eq_of_beq_eq_true hl) k
theorem x_stp {T T' m : Nat} [hT : CSC P T m] {x y : Operand} {b o : Nat} {cs vs : List Value} {L' : Own} (hw : Region.wanted ⟨dst, .store T x y, ty, pos, af, g⟩ (yieldB f ops) = true)
    (hx : ev f x = .pointer (some ⟨b, o, none⟩)) (hy : ev f y = .agg vs.toArray) (hm : Nat.beq vs.length m = true) (ho : vs.all Value.oneCell' = true) (hp : Put L b (B T' cs) (B T' (setAll cs o vs)) L') (hl : Nat.ble (o + vs.length) cs.length = true)
    (k : W P n w0 .lex ops Q rest (putf n f dst undef) L') : W P n w0 .lex ops Q (⟨dst, .store T x y, ty, pos, af, g⟩ :: rest) f L := w_sto hw hT.out hx hy rfl (Nat.eq_of_beq_eq_true hm) ho hp (Nat.le_of_ble_eq_true hl) k
theorem x_call {k : Nat} [hF : CFN P k] {x : Operand} {xs : List Operand} {at_ : Array TypeId} {cap : Array Value} {args : List Value} {R : Value → Own → Prop} (hc : Gives P w0 L k args R)
    (hw : Region.wanted ⟨dst, .call { callee := .value x, args := xs.toArray, argTypes := at_ }, ty, pos, af, g⟩ (yieldB f ops) = true)
    (hx : ev f x = .func (.func k) #[] cap) (ha : xs.map (ev f) ++ cap.toList = args)
    (kk : ∀ v L', R v L' → W P n w0 .lex ops Q rest (putf n f dst v) L') : W P n w0 .lex ops Q (⟨dst, .call { callee := .value x, args := xs.toArray, argTypes := at_ }, ty, pos, af, g⟩ :: rest) f L := w_call hc hw hF.out hx ha kk
theorem x_callp {k : Nat} [hF : CFN P k] (hq : q ≠ .take) {x : Operand} {xs : List Operand} {at_ : Array TypeId} {cap : Array Value} {args : List Value} {v : Value} (hc : Gives P w0 L k args (fun v' L' => v' = v ∧ L' = L))
    (hw : Region.wanted ⟨dst, .call { callee := .value x, args := xs.toArray, argTypes := at_ }, ty, pos, af, g⟩ (yieldB f ops) = true)
    (hx : ev f x = .func (.func k) #[] cap) (ha : xs.map (ev f) ++ cap.toList = args)
    (kk : W P n w0 q ops Q rest (putf n f dst v) L) : W P n w0 q ops Q (⟨dst, .call { callee := .value x, args := xs.toArray, argTypes := at_ }, ty, pos, af, g⟩ :: rest) f L := w_callp hq hc hw hF.out hx ha kk
end
/-! Results: a slot; a whole box. -/
section
variable {P : Program} {w0 : World} {L : Own} {f : Fm} {rs : List ResultVar} {vs : List Value}
theorem ra_t {t : Nat} {v : Value} (h : f t = v) (h2 : ResAll P w0 L f rs vs) : ResAll P w0 L f (.tmp t :: rs) (v :: vs) := .cons h h2
theorem ra_c {t b T T' m : Nat} {cs : List Value} [hT : CLA P T m] (h : f t = .pointer (some ⟨b, 0, none⟩)) (hb : Has L b (B T' cs)) (hm : Nat.beq cs.length m = true) (h2 : ResAll P w0 L f rs vs) : ResAll P w0 L f (.cell t T :: rs) (.agg cs.toArray :: vs) :=
  .cons ⟨_, h, fun w hM => hT.out _ w cs (Nat.eq_of_beq_eq_true hm) fun i v hv => by rw [addr_add, Nat.zero_add, hM.cellB hb]; exact hv⟩ h2
theorem ra_c1 {t b T T' : Nat} {v : Value} [hT : CL1 P T] (h : f t = .pointer (some ⟨b, 0, none⟩)) (hb : Has L b (B T' [v])) (h2 : ResAll P w0 L f rs vs) : ResAll P w0 L f (.cell t T :: rs) (v :: vs) :=
  .cons ⟨_, h, fun w hM => hT.out _ w v (by rw [hM.cellB hb]; rfl)⟩ h2
end
end Go.Proofs.Ytnmhhelcaibdoaa.Sl
