/- The walk's own calculus, part four: the forms in which a walk uses it. -/
import Derived.Test.YtnmhhelcaibdoaaSl3
namespace Go.Proofs.Ytnmhhelcaibdoaa.Sl
open Go Go.RowKit
set_option linter.unusedVariables false
set_option linter.unusedSimpArgs false

section
variable {P : Program} {n : Nat} {w0 : World} {q : Mo} {ops : Array Oper} {Q : Po} {N : Fm → Own → Prop} {rest : List Oper} {f : Fm} {L : Own}
theorem tq_n (h : N f L) : thenQ N Q .normal f L := h
theorem tq_e {id : Nat} (h : Q (.exit id) f L) : thenQ N Q (.exit id) f L := h
theorem tq_r (h : Q .ret f L) : thenQ N Q .ret f L := h
theorem bq_n {id : Nat} (h : Q .normal f L) : blkQ id Q .normal f L := h
theorem bq_r {id : Nat} (h : Q .ret f L) : blkQ id Q .ret f L := h
theorem bq_e {id : Nat} (h : Q .normal f L) : blkQ id Q (.exit id) f L := by simp only [blkQ, if_true]; exact h
theorem bq_o {id id' : Nat} (hne : Nat.beq id' id = false) (h : Q (.exit id') f L) : blkQ id Q (.exit id') f L := by
  simp only [blkQ]; rw [if_neg (fun e => by subst e; rw [Nat.beq_refl] at hne; cases hne)]; exact h
theorem rq_n {rs : List ResultVar} {R : Value → Own → Prop} {vs : List Value} {L' : Own} (h1 : ResAll P w0 L f rs vs) (h2 : L'.Sublist L) (h3 : R (resV vs) L') : retQ P w0 rs R .normal f L := ⟨vs, L', h1, h2, h3⟩
theorem rq_r {rs : List ResultVar} {R : Value → Own → Prop} {vs : List Value} {L' : Own} (h1 : ResAll P w0 L f rs vs) (h2 : L'.Sublist L) (h3 : R (resV vs) L') : retQ P w0 rs R .ret f L := ⟨vs, L', h1, h2, h3⟩

/-- The guard of the operation that comes up is open: both ways. -/
theorem w_cases_o {o : Oper} {i d : Nat} {want b : Bool} (hg : o.guard = some (i, want)) (hd : (ops[i]?).bind (·.dst) = some d) (hv : f d = .bool b)
    (h1 : b = true → W P n w0 q ops Q (o :: rest) (upd n f d (.bool true)) L) (h2 : b = false → W P n w0 q ops Q (o :: rest) (upd n f d (.bool false)) L) : W P n w0 q ops Q (o :: rest) f L := w_cases d hv h1 h2
theorem w_cases_od {o : Oper} {i d : Nat} {want : Bool} {p : Prop} [Decidable p] (hg : o.guard = some (i, want)) (hd : (ops[i]?).bind (·.dst) = some d) (hv : f d = .bool (decide p))
    (h1 : p → W P n w0 q ops Q (o :: rest) (upd n f d (.bool true)) L) (h2 : ¬ p → W P n w0 q ops Q (o :: rest) (upd n f d (.bool false)) L) : W P n w0 q ops Q (o :: rest) f L := w_cases_d d hv h1 h2
section ops
variable {d ty : Nat} {pos : String} {af : Array Edge} {g : Option (Nat × Bool)}
theorem w_lss {T T' : Nat} {x y : Operand} {k : IntKind} {a b : Int} (hw : Region.wanted ⟨some d, .binOp .lss T x y T', ty, pos, af, g⟩ (yieldB f ops) = true) (hx : ev f x = .int k a) (hy : ev f y = .int k b)
    (kk : W P n w0 q ops Q rest (upd n f d (.bool (decide (a < b)))) L) : W P n w0 q ops Q (⟨some d, .binOp .lss T x y T', ty, pos, af, g⟩ :: rest) f L := w_cmp hw hx hy rfl kk
theorem w_leq {T T' : Nat} {x y : Operand} {k : IntKind} {a b : Int} (hw : Region.wanted ⟨some d, .binOp .leq T x y T', ty, pos, af, g⟩ (yieldB f ops) = true) (hx : ev f x = .int k a) (hy : ev f y = .int k b)
    (kk : W P n w0 q ops Q rest (upd n f d (.bool (decide (a ≤ b)))) L) : W P n w0 q ops Q (⟨some d, .binOp .leq T x y T', ty, pos, af, g⟩ :: rest) f L := w_cmp hw hx hy rfl kk
theorem w_gtr {T T' : Nat} {x y : Operand} {k : IntKind} {a b : Int} (hw : Region.wanted ⟨some d, .binOp .gtr T x y T', ty, pos, af, g⟩ (yieldB f ops) = true) (hx : ev f x = .int k a) (hy : ev f y = .int k b)
    (kk : W P n w0 q ops Q rest (upd n f d (.bool (decide (b < a)))) L) : W P n w0 q ops Q (⟨some d, .binOp .gtr T x y T', ty, pos, af, g⟩ :: rest) f L := w_cmp hw hx hy rfl kk
theorem w_geq {T T' : Nat} {x y : Operand} {k : IntKind} {a b : Int} (hw : Region.wanted ⟨some d, .binOp .geq T x y T', ty, pos, af, g⟩ (yieldB f ops) = true) (hx : ev f x = .int k a) (hy : ev f y = .int k b)
    (kk : W P n w0 q ops Q rest (upd n f d (.bool (decide (b ≤ a)))) L) : W P n w0 q ops Q (⟨some d, .binOp .geq T x y T', ty, pos, af, g⟩ :: rest) f L := w_cmp hw hx hy rfl kk
theorem w_eql {T T' : Nat} {x y : Operand} {k : IntKind} {a b : Int} (hw : Region.wanted ⟨some d, .binOp .eql T x y T', ty, pos, af, g⟩ (yieldB f ops) = true) (hx : ev f x = .int k a) (hy : ev f y = .int k b)
    (kk : W P n w0 q ops Q rest (upd n f d (.bool (decide (a = b)))) L) : W P n w0 q ops Q (⟨some d, .binOp .eql T x y T', ty, pos, af, g⟩ :: rest) f L := w_cmp hw hx hy rfl kk
theorem w_neq {T T' : Nat} {x y : Operand} {k : IntKind} {a b : Int} (hw : Region.wanted ⟨some d, .binOp .neq T x y T', ty, pos, af, g⟩ (yieldB f ops) = true) (hx : ev f x = .int k a) (hy : ev f y = .int k b)
    (kk : W P n w0 q ops Q rest (upd n f d (.bool (decide (a ≠ b)))) L) : W P n w0 q ops Q (⟨some d, .binOp .neq T x y T', ty, pos, af, g⟩ :: rest) f L :=
  w_cmp (p := decide (a ≠ b)) hw hx hy (by simp only [Option.some.injEq]; rw [Bool.eq_iff_iff]; simp) kk
theorem w_notd {T : Nat} {x : Operand} {p : Prop} [Decidable p] (hw : Region.wanted ⟨some d, .unOp .not T x, ty, pos, af, g⟩ (yieldB f ops) = true) (hx : ev f x = .bool (decide p))
    (kk : W P n w0 q ops Q rest (upd n f d (.bool (decide (¬ p)))) L) : W P n w0 q ops Q (⟨some d, .unOp .not T x, ty, pos, af, g⟩ :: rest) f L := by
  refine w_not hw hx ?_
  rw [show (!decide p) = decide (¬ p) by rw [Bool.eq_iff_iff]; simp]
  exact kk
/-! Structs built, the places as a list. -/
inductive EvL (f : Fm) : List (Nat × Operand) → List (Nat × Value) → Prop
  | nil : EvL f [] []
  | cons {i x v l l'} (h : ev f x = v) (t : EvL f l l') : EvL f ((i, x) :: l) ((i, v) :: l')
theorem EvL.eq {l : List (Nat × Operand)} {l' : List (Nat × Value)} (h : EvL f l l') : (l.map fun p => (p.1, ev f p.2)) = l' := by
  induction h with
  | nil => rfl
  | cons h _ ih => simp only [List.map_cons, ih, h]
def fillL (pl : List (Nat × Nat)) : List Value → List (Nat × Value) → List Value
  | zs, [] => zs
  | zs, (i, v) :: r => fillL pl (setAll zs (pl.getD i (0, 0)).1 v.cells.toList) r
def fitL (pl : List (Nat × Nat)) (m : Nat) : List (Nat × Value) → Bool
  | [] => true
  | (i, v) :: r => Nat.beq v.cells.size (pl.getD i (0, 0)).2 && Nat.ble ((pl.getD i (0, 0)).1 + v.cells.size) m && Nat.blt i pl.length && fitL pl m r
theorem foldl_setAll : ∀ (vs : List Value) (cs : Array Value) (o k : Nat), (vs.zipIdx k).foldl (fun (cs : Array Value) (x : Value × Nat) => cs.setIfInBounds (o + x.2) x.1) cs = (setAll cs.toList (o + k) vs).toArray
  | [], cs, o, k => by simp [setAll]
  | v :: vs, cs, o, k => by
    simp only [List.zipIdx_cons, List.foldl_cons, setAll]
    rw [foldl_setAll vs _ o (k + 1)]
    simp [Nat.add_assoc]
theorem fill_fillL {pl : List (Nat × Nat)} : ∀ (parts : List (Nat × Value)) (zs : List Value), fitL pl zs.length parts = true → Instr.fill (fun i => pl.toArray[i]?) zs.toArray parts = some (fillL pl zs parts).toArray
  | [], zs, _ => by simp [Instr.fill, fillL]
  | (i, v) :: r, zs, h => by
    simp only [fitL, Bool.and_eq_true] at h
    obtain ⟨⟨⟨h1, h2⟩, h3⟩, h4⟩ := h
    have h1 := Nat.eq_of_beq_eq_true h1
    have h2 := Nat.le_of_ble_eq_true h2
    have h3 : i < pl.length := by simpa using h3
    have hp : pl.toArray[i]? = some (pl.getD i (0, 0)) := by simp [h3]
    unfold Instr.fill
    simp only [hp]
    have hz : zs.toArray.size = zs.length := by simp
    have hc : (decide (v.cells.size ≠ (pl.getD i (0, 0)).snd) || decide ((pl.getD i (0, 0)).fst + v.cells.size > zs.toArray.size)) = false := by
      rw [hz, Bool.or_eq_false_iff]
      exact ⟨decide_eq_false (fun h => h h1), decide_eq_false (by omega)⟩
    rw [hc, if_neg (by decide)]
    have e : (Array.foldl (fun cs (x : Value × Nat) => match x with | (c, j) => cs.setIfInBounds ((pl.getD i (0, 0)).1 + j) c) zs.toArray v.cells.zipIdx) = (setAll zs (pl.getD i (0, 0)).1 v.cells.toList).toArray := by
      have := foldl_setAll v.cells.toList zs.toArray (pl.getD i (0, 0)).1 0
      simp only [Nat.add_zero] at this
      rw [← this, ← Array.foldl_toList, Array.toList_zipIdx]
    rw [e, fill_fillL r _ (by rw [setAll_length]; exact h4)]
    rfl
/-- Of type T: its zero's cells, and each field's place and size. -/
structure BT (P : Program) (T : Nat) (zs : List Value) (pl : List (Nat × Nat)) : Prop where
  ok : ∃ fs inf z, P.underlying T = some (.struct fs) ∧ P.info? T = some inf ∧ inf.zero = some z ∧ z.cells = zs.toArray ∧
    fs.map (fun fl => (fl.offset, ((P.info? fl.type).map (·.size)).getD 0)) = pl.toArray ∧ fs.all (fun fl => (P.info? fl.type).isSome) = true
theorem w_bld {T : Nat} {parts : List (Nat × Operand)} {pv : List (Nat × Value)} {zs : List Value} {pl : List (Nat × Nat)} (hw : Region.wanted ⟨some d, .build T parts.toArray, ty, pos, af, g⟩ (yieldB f ops) = true) (hT : BT P T zs pl) (hp : EvL f parts pv) (hf : fitL pl zs.length pv = true)
    (kk : W P n w0 q ops Q rest (upd n f d (.agg (fillL pl zs pv).toArray)) L) : W P n w0 q ops Q (⟨some d, .build T parts.toArray, ty, pos, af, g⟩ :: rest) f L := by
  obtain ⟨fs, inf, z, h1, h2, h3, h4, h5, h6⟩ := hT.ok
  refine w_bd hw (BD.mk h1 h2 h3 h5 h6 ?_) kk
  rw [hp.eq, h4]
  exact fill_fillL pv zs hf
end ops

/-! Frames that agree outside some slots. -/
def Ag (D : List Nat) (g f : Fm) : Prop := ∀ j, D.elem j = false → g j = f j
theorem Ag.ov {D : List Nat} {g f : Fm} : Ag D (ov D g f) f := fun j hj => by simp only [Sl.ov, hj, cond_false]
theorem Ag.refl {D : List Nat} {f : Fm} : Ag D f f := fun _ _ => rfl
theorem Ag.upd {D : List Nat} {g f : Fm} {d : Nat} {v : Value} (hd : D.elem d = true) (h : Ag D g f) : Ag D (upd n g d v) f := fun j hj => by
  have : Nat.beq j d = false := by
    cases hb : Nat.beq j d with
    | false => rfl
    | true => have := Nat.eq_of_beq_eq_true hb; subst this; rw [hd] at hj; cases hj
  simp only [Sl.upd, this, cond_false]; exact h j hj
theorem Ag.eq {D : List Nat} {g f : Fm} (h : Ag D g f) : g = Sl.ov D g f := by
  funext j
  unfold Sl.ov
  cases hj : D.elem j with
  | false => exact h j hj
  | true => rfl
theorem Ag.upd_eq {D : List Nat} {g f : Fm} {d : Nat} {v : Value} (h : g = Sl.ov D g f) (hv : g d = v) : g = Sl.upd n (Sl.ov D g f) d v := by
  rw [← h, upd_self hv]
end
end Go.Proofs.Ytnmhhelcaibdoaa.Sl
