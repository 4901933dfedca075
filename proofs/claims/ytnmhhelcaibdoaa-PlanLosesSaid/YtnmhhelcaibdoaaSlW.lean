/- Functions held against nil; structs of a struct of whole numbers and one whole number more, held against each other; types of copies. -/
import Derived.Test.YtnmhhelcaibdoaaSlV
namespace Go.Proofs.Ytnmhhelcaibdoaa.Sl
open Go Go.RowKit
set_option linter.unusedVariables false
set_option linter.unusedSimpArgs false
def SE2b (P : Program) (T T1 m : Nat) : Bool := (match P.underlying T with
  | some (.struct fs) => (match fs.toList with
    | [f1, f2] => Nat.beq f1.offset 0 && (f1.name != "_") && Nat.beq f1.type T1 && Nat.beq f2.offset m && (f2.name != "_") && (match P.underlying f2.type with | some (.int _) => true | _ => false)
    | _ => false)
  | _ => false) && (match P.underlying T1 with | some (.struct _) => true | _ => false) && ((P.info? T1).map (·.size) == some m) && !P.stoodInHeld T && !P.eqGuardType P.depth T
class CSE2 (P : Program) (T : Nat) (T1 m : outParam Nat) : Prop where out : SE2b P T T1 m = true
theorem CSE.run' {P : Program} {T m : Nat} (h : CSE P T m) {w : World} {xs ys : List Int} (hx : xs.length = m) (hy : ys.length = m) :
    (Op.equalIn 9999 T (.agg (xs.map (Value.int .i64)).toArray) (.agg (ys.map (Value.int .i64)).toArray)).run P w = .ok (decide (xs = ys)) w := by
  have h := h.out
  simp only [SEb, Bool.and_eq_true, Bool.not_eq_true'] at h
  obtain ⟨⟨h1, h2⟩, h3⟩ := h
  split at h1 <;> try (cases h1; done)
  rename_i fs hu
  simp only [Bool.and_eq_true] at h1
  have hm := Nat.eq_of_beq_eq_true h1.2
  have hfo : P.fieldsOf T = fs := by simp [Program.fieldsOf, hu]
  have := run_equalIn_struct (P := P) w 9998 T (xs.map (Value.int .i64)).toArray (ys.map (Value.int .i64)).toArray (by rw [hfo]; exact hu) h2
  have e := eqFields_int (P := P) (d := 9997) (w := w) fs.toList 0 xs ys h1.1 (by simp; omega) (by simp; omega)
  rw [this, hfo, e]; simp
theorem CSE2.run {P : Program} {T T1 m : Nat} (h1 : CSE P T1 m) (h : CSE2 P T T1 m) {w : World} {x y : Operand} {xs ys : List Int} {a b : Int} (hx : xs.length = m) (hy : ys.length = m) :
    (Op.equalIn 10000 T (.agg ((xs ++ [a]).map (Value.int .i64)).toArray) (.agg ((ys ++ [b]).map (Value.int .i64)).toArray)).run P w = .ok (decide (xs ++ [a] = ys ++ [b])) w ∧ ∀ op, (eqGuard op T x y (.agg ((xs ++ [a]).map (Value.int .i64)).toArray) (.agg ((ys ++ [b]).map (Value.int .i64)).toArray)).run P w = .ok () w := by
  have h := h.out
  simp only [SE2b, Bool.and_eq_true, Bool.not_eq_true'] at h
  obtain ⟨⟨⟨⟨g1, g2⟩, g3⟩, g4⟩, g5⟩ := h
  split at g1 <;> try (cases g1; done)
  rename_i fs hu
  split at g1 <;> try (cases g1; done)
  rename_i f1 f2 hfs
  simp only [Bool.and_eq_true] at g1
  obtain ⟨⟨⟨⟨⟨k1, k2⟩, k3⟩, k4⟩, k5⟩, k6⟩ := g1
  have k1 := Nat.eq_of_beq_eq_true k1
  have k3 := Nat.eq_of_beq_eq_true k3
  have k4 := Nat.eq_of_beq_eq_true k4
  have k2 : f1.name ≠ "_" := by simpa using k2
  have k5 : f2.name ≠ "_" := by simpa using k5
  split at k6 <;> try (cases k6; done)
  rename_i k hk
  split at g2 <;> try (cases g2; done)
  rename_i fs1 hu1
  have g3 : (P.info? T1).map (·.size) = some m := by simpa using g3
  have hfo : P.fieldsOf T = fs := by simp [Program.fieldsOf, hu]
  constructor
  · have := run_equalIn_struct (P := P) w 9999 T ((xs ++ [a]).map (Value.int .i64)).toArray ((ys ++ [b]).map (Value.int .i64)).toArray (by rw [hfo]; exact hu) g4
    rw [this, hfo, hfs]
    have hagg1 : (isAgg f1.type).run P w = .ok true w := by rw [k3]; simp [isAgg, underlying, program, Sem.run, hu1]
    have hagg2 : (isAgg f2.type).run P w = .ok false w := by simp [isAgg, underlying, program, Sem.run, hk]
    have hsz : (sizeOf f1.type).run P w = .ok m w := by
      rw [k3]
      obtain ⟨inf, hi, hs⟩ := Option.map_eq_some_iff.1 g3
      simp [sizeOf, typeInfo, program, Sem.run, hi, hs]
    have hp1 : ∀ (zs : List Int) (z : Int), zs.length = m → (part f1.type ((zs ++ [z]).map (Value.int .i64)).toArray f1.offset).run P w = .ok (.agg (zs.map (Value.int .i64)).toArray) w := fun zs z hz => by
      simp only [part, Sem.run_bind, hagg1, hsz, Result.andThen_ok, if_true, Sem.run_pure, k1]
      simp only [Nat.zero_add, List.extract_toArray, List.map_append]
      congr 3
      simp [List.extract_eq_take_drop, ← hz]
    have hp2 : ∀ (zs : List Int) (z : Int), zs.length = m → (part f2.type ((zs ++ [z]).map (Value.int .i64)).toArray f2.offset).run P w = .ok (.int .i64 z) w := fun zs z hz => by
      simp only [part, Sem.run_bind, hagg2, Result.andThen_ok, Bool.false_eq_true, if_false, k4]
      simp [← hz]
    simp only [Op.eqFields, k2, k5, ne_eq, not_false_eq_true, if_true, Sem.run_bind, hp1 xs a hx, hp1 ys b hy, hp2 xs a hx, hp2 ys b hy, Result.andThen_ok]
    rw [k3, h1.run' hx hy]
    simp only [Result.andThen_ok]
    by_cases he : xs = ys
    · subst he
      simp only [decide_true, Bool.not_true, Bool.false_eq_true, if_false, Sem.run_bind, hp2 xs a hx, hp2 xs b hx, Result.andThen_ok]
      rw [run_equalIn_int w 9998 f2.type .i64 k a b hk]
      simp only [Result.andThen_ok]
      by_cases hab : a = b
      · subst hab; simp
      · have : (a == b) = false := by simpa using hab
        rw [this, if_pos (by decide)]
        simp [hab]
    · have hne : ¬ xs ++ [a] = ys ++ [b] := fun e => he (List.append_inj e (by rw [hx, hy])).1
      simp only [he, decide_false, Bool.not_false, if_true, Sem.run_pure, hne]
  · intro op
    exact run_eqGuard_agg w op T x y _ _ g5
section
variable {P : Program} {n : Nat} {w0 : World} {q : Mo} {ops : Array Oper} {Q : Po} {rest : List Oper} {f : Fm} {L : Own} {d ty : Nat} {pos : String} {af : Array Edge} {g : Option (Nat × Bool)}
theorem x_neqs2 {T T' T1 m : Nat} [h1 : CSE P T1 m] [hT : CSE2 P T T1 m] {x y : Operand} (xs ys : List Int) (a b : Int) (hw : Region.wanted ⟨some d, .binOp .neq T x y T', ty, pos, af, g⟩ (yieldB f ops) = true) (hx : ev f x = .agg ((xs ++ [a]).map (Value.int .i64)).toArray) (hy : ev f y = .agg ((ys ++ [b]).map (Value.int .i64)).toArray) (hlx : xs.length = m) (hly : ys.length = m)
    (kk : W P n w0 q ops Q rest (upd n f d (.bool (decide (xs ++ [a] ≠ ys ++ [b])))) L) : W P n w0 q ops Q (⟨some d, .binOp .neq T x y T', ty, pos, af, g⟩ :: rest) f L :=
  w_ev hw (v := .bool (decide (xs ++ [a] ≠ ys ++ [b]))) (fun w _ => by
    obtain ⟨g1, g2⟩ := CSE2.run h1 hT (w := w) (x := x) (y := y) (a := a) (b := b) hlx hly
    simp only [execOp, hx, hy, Sem.run_bind, g2, Result.andThen_ok, run_neq_struct, g1, Sem.run_pure]
    simp) kk
theorem x_eqfn {T T' gk : Nat} {a b c} (hT : P.underlying T = some (.func a b c)) {x y : Operand} {ts cap : Array Value} (hw : Region.wanted ⟨some d, .binOp .eql T x y T', ty, pos, af, g⟩ (yieldB f ops) = true) (hx : ev f x = .func (.func gk) ts cap) (hy : ev f y = .nilFunc)
    (kk : W P n w0 q ops Q rest (upd n f d (.bool false)) L) : W P n w0 q ops Q (⟨some d, .binOp .eql T x y T', ty, pos, af, g⟩ :: rest) f L :=
  w_ev hw (v := .bool false) (fun w _ => by
    have hun : (underlying T).run P w = .ok (.func a b c) w := by simp [underlying, program, Sem.run, hT]
    have h1 : (Op.equal T (.func (.func gk) ts cap) .nilFunc).run P w = .ok false w := by
      show (Op.equalIn (9999 + 1) T (.func (.func gk) ts cap) .nilFunc).run P w = _
      unfold Op.equalIn
      simp only [Sem.run_bind, hun, Result.andThen_ok]
      rfl
    have h2 : (eqGuard .eql T x y (.func (.func gk) ts cap) .nilFunc).run P w = .ok () w := by simp [eqGuard]
    simp only [execOp, hx, hy, Sem.run_bind, h2, Result.andThen_ok, binOp, h1, Sem.run_pure]) kk
theorem d_begin_js {A : Own} {id : Nat} {l : List Oper} (hA : A.Sublist L) (Wr : List Nat) (hm : P.follows .mixedOrders = true) (D : List Nat) (d : Nat) (v : Value)
    (h : WD P n w0 l.toArray (Jns D f L d v) A Wr l.length (Array.replicate l.length false) f L) (k : ∀ g, Q .normal (upd n (ov D g f) d v) L) : CW P n w0 (.region id l.toArray true) Q f L :=
  fun ds a w ha hM => wpIn_mono (d_begin_s hA Wr hm h ds a w ha hM) fun _ _ _ ⟨f', L', h1, h2, e1, e2, e3, e4⟩ => ⟨f', L, h1, h2.drop e4, by
    subst e1
    have := k f'
    rwa [← e2.eq, upd_self e3] at this⟩
theorem np_jns {D : List Nat} {v : Value} : NoPan (Jns D f L d v) := fun c f' L' h => by cases h.1
end
instance se2_118 : CSE2 Try.prog 118 29 2 := ⟨by kernel_rfl⟩
end Go.Proofs.Ytnmhhelcaibdoaa.Sl
