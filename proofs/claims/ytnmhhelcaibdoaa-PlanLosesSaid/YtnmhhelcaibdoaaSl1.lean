/- The walk's own calculus, part one: frames as functions, memory as a list of owned blocks over a base world; judgements over code and over lists of operations. -/
import Derived.Test.YtnmhhelcaibdoaaProg
import Derived.Deep.Quiet
import Derived.Deep.LoopGhost
import Derived.Below
import Derived.RangeFuncSeq
import Derived.Sort.LoopGhostIn
namespace Go.Proofs.Ytnmhhelcaibdoaa.Sl
open Go Go.RowKit
set_option linter.unusedVariables false
set_option linter.unusedSimpArgs false

/-! ### Frames -/
abbrev Fm := Nat → Value
def upd (n : Nat) (f : Fm) (d : Nat) (v : Value) : Fm := fun j => bif Nat.beq j d then (bif Nat.blt d n then v else f j) else f j
def ini (l : List Value) : Fm := fun i => l.getD i undef
def putf (n : Nat) (f : Fm) : Option Nat → Value → Fm
  | some d, v => upd n f d v
  | none, _ => f
def ev (f : Fm) : Operand → Value
  | .tmp t => f t
  | .const v => v
  | .global g => .pointer (some ⟨g, 0, none⟩)
  | .func k => .func (.func k) #[] #[]
/-- Outside the slots D the frame is f, inside it is g. -/
def ov (D : List Nat) (g f : Fm) : Fm := fun j => bif D.elem j then g j else f j

structure Fr (ds : List Deferred) (n : Nat) (a : Act) (f : Fm) : Prop where
  defers : a.defers = ds
  size : a.tmps.size = n
  val : ∀ i, a.tmps.getD i undef = f i

theorem Fr.eval {ds : List Deferred} {n : Nat} {a : Act} {f : Fm} (h : Fr ds n a f) (x : Operand) : a.eval x = ev f x := by
  cases x with
  | tmp t => exact h.val t
  | const v => rfl
  | global g => rfl
  | func k => rfl

theorem Fr.eval_fun {ds : List Deferred} {n : Nat} {a : Act} {f : Fm} (h : Fr ds n a f) : a.eval = ev f := funext h.eval

theorem Fr.put {ds : List Deferred} {n : Nat} {a : Act} {f : Fm} (h : Fr ds n a f) (d : Option Nat) (v : Value) : Fr ds n (a.put d v) (putf n f d v) := by
  cases d with
  | none => exact h
  | some d =>
    refine ⟨h.defers, by simp [Act.put, h.size], fun i => ?_⟩
    have hv := h.val i
    simp only [Act.put, putf, upd, Array.getD_eq_getD_getElem?] at hv ⊢
    by_cases hid : i = d
    · subst hid
      have hb : Nat.beq i i = true := Nat.beq_refl i
      simp only [hb, cond_true]
      by_cases hlt : i < n
      · have : Nat.blt i n = true := by simpa [Nat.blt_eq] using hlt
        simp only [this, cond_true]
        rw [Array.getElem?_setIfInBounds_self_of_lt (by rw [h.size]; exact hlt)]
        rfl
      · have : Nat.blt i n = false := by
          cases hb : Nat.blt i n with
          | false => rfl
          | true => exact absurd (by simpa using hb) hlt
        simp only [this, cond_false]
        rw [← hv, Array.getElem?_eq_none (by simp [h.size]; omega), Array.getElem?_eq_none (by rw [h.size]; omega)]
    · have : Nat.beq i d = false := by
        cases hb : Nat.beq i d with
        | false => rfl
        | true => exact absurd (Nat.eq_of_beq_eq_true hb) hid
      simp only [this, cond_false]
      rw [← hv, Array.getElem?_setIfInBounds_ne (Ne.symm hid)]

/-! ### Memory: a base world and owned blocks -/
abbrev Own := List (Nat × Obj)
structure Mem (w0 w : World) (L : Own) : Prop where
  below : Below w0.heap.size w0 w
  own : ∀ x ∈ L, w0.heap.size ≤ x.1 ∧ w.heap[x.1]? = some x.2
  nodup : (L.map (·.1)).Nodup

theorem Mem.refl (w : World) : Mem w w [] := ⟨Below.refl _ _, fun x h => absurd h List.not_mem_nil, List.nodup_nil⟩
theorem Mem.drewN {w0 w : World} {L : Own} (h : Mem w0 w L) : Mem w0 { w with drawn := w.drawn + 1 } L := ⟨⟨h.below.os, h.below.tape, h.below.output, h.below.size, h.below.block⟩, h.own, h.nodup⟩
theorem Mem.lt {w0 w : World} {L : Own} (h : Mem w0 w L) {x : Nat × Obj} (hx : x ∈ L) : x.1 < w.heap.size := by
  have := (h.own x hx).2
  exact (Array.getElem?_eq_some_iff.1 this).1
/-- What a callee made, over what the caller had. -/
theorem Mem.trans {w0 w w' : World} {L L' : Own} (h : Mem w0 w L) (h' : Mem w w' L') : Mem w0 w' (L' ++ L) := by
  refine ⟨h.below.trans (h'.below.mono h.below.size), fun x hx => ?_, ?_⟩
  · rcases List.mem_append.1 hx with hx | hx
    · exact ⟨Nat.le_trans h.below.size (h'.own x hx).1, (h'.own x hx).2⟩
    · exact ⟨(h.own x hx).1, by rw [h'.below.block _ (h.lt hx)]; exact (h.own x hx).2⟩
  · rw [List.map_append, List.nodup_append]
    refine ⟨h'.nodup, h.nodup, fun a ha b hb => ?_⟩
    obtain ⟨x, hx, rfl⟩ := List.mem_map.1 ha
    obtain ⟨y, hy, rfl⟩ := List.mem_map.1 hb
    have h1 := (h'.own x hx).1
    have h2 := h.lt hy
    omega
theorem Mem.trans_nil {w0 w w' : World} {L : Own} (h : Mem w0 w L) (h' : Mem w w' []) : Mem w0 w' L := h.trans h'
theorem Mem.new {w0 w : World} {L : Own} (h : Mem w0 w L) (o : Obj) : Mem w0 (w.alloc o) ((w.heap.size, o) :: L) := by
  refine ⟨h.below.alloc h.below.size o, fun x hx => ?_, ?_⟩
  · rcases List.mem_cons.1 hx with rfl | hx
    · exact ⟨h.below.size, by show (w.heap.push o)[w.heap.size]? = some o; simp⟩
    · refine ⟨(h.own x hx).1, ?_⟩
      rw [Below.heap_alloc _ _ _ (h.lt hx)]
      exact (h.own x hx).2
  · rw [List.map_cons, List.nodup_cons]
    refine ⟨fun hm => ?_, h.nodup⟩
    obtain ⟨x, hx, he⟩ := List.mem_map.1 hm
    have := h.lt hx
    omega
theorem Mem.perm {w0 w : World} {L L' : Own} (h : Mem w0 w L) (hp : L.Perm L') : Mem w0 w L' :=
  ⟨h.below, fun x hx => h.own x (hp.mem_iff.2 hx), (hp.map _).nodup_iff.1 h.nodup⟩
theorem Mem.drop {w0 w : World} {L L' : Own} (h : Mem w0 w L) (hs : L'.Sublist L) : Mem w0 w L' :=
  ⟨h.below, fun x hx => h.own x (hs.subset hx), (hs.map _).nodup h.nodup⟩
theorem Mem.base {w0 w : World} {L : Own} (h : Mem w0 w L) {a : Addr} {v : Value} (hc : w0.cell? a = some v) : w.cell? a = some v := by
  have hlt : a.block < w0.heap.size := by
    rcases Nat.lt_or_ge a.block w0.heap.size with h' | h'
    · exact h'
    · simp [World.cell?, Array.getElem?_eq_none h'] at hc
  rw [h.below.cell hlt]; exact hc
/-- A whole block replaced. -/
theorem Mem.put {w0 w : World} {L : Own} {b : Nat} {o o' : Obj} {w' : World} (h : Mem w0 w ((b, o) :: L)) (hos : w'.os = w.os) (htp : w'.tape = w.tape) (hou : w'.output = w.output)
    (hsz : w'.heap.size = w.heap.size) (hb : w'.heap[b]? = some o') (hne : ∀ k, k ≠ b → w'.heap[k]? = w.heap[k]?) : Mem w0 w' ((b, o') :: L) := by
  have hbb := (h.own (b, o) (by simp)).1
  have hnd := h.nodup
  rw [List.map_cons, List.nodup_cons] at hnd
  refine ⟨h.below.trans ⟨hos, htp, hou, by omega, fun k hk => hne k (by simp at hbb; omega)⟩, fun x hx => ?_, by rw [List.map_cons, List.nodup_cons]; exact hnd⟩
  rcases List.mem_cons.1 hx with rfl | hx
  · exact ⟨hbb, hb⟩
  · refine ⟨(h.own x (by simp [hx])).1, ?_⟩
    rw [hne _ (fun e => hnd.1 (e ▸ List.mem_map.2 ⟨x, hx, rfl⟩))]
    exact (h.own x (by simp [hx])).2

/-- A cell that reads so in every world of the class. -/
def Rd (w0 : World) (L : Own) (a : Addr) (v : Value) : Prop := ∀ w, Mem w0 w L → w.cell? a = some v
theorem Rd.of_base {w0 : World} {L : Own} {a : Addr} {v : Value} (h : w0.cell? a = some v) : Rd w0 L a v := fun _ hM => hM.base h
theorem Rd.at {w0 w : World} {L : Own} {a : Addr} {v : Value} (h : Rd w0 L a v) (hM : Mem w0 w L) : Rd w [] a v := .of_base (h w hM)
theorem Rd.sub {w0 : World} {L L' : Own} {a : Addr} {v : Value} (h : Rd w0 L a v) (hs : L.Sublist L') : Rd w0 L' a v := fun w hM => h w (hM.drop hs)
theorem Rd.perm {w0 : World} {L L' : Own} {a : Addr} {v : Value} (h : Rd w0 L a v) (hs : L'.Perm L) : Rd w0 L' a v := fun w hM => h w (hM.perm hs)

/-- Block b of the list holds o. -/
inductive Has : Own → Nat → Obj → Prop
  | here {b o L} : Has ((b, o) :: L) b o
  | there {b o x L} : Has L b o → Has (x :: L) b o
theorem Has.mem {L : Own} {b : Nat} {o : Obj} (h : Has L b o) : (b, o) ∈ L := by
  induction h with
  | here => simp
  | there _ ih => simp [ih]
theorem Has.of_mem {L : Own} {b : Nat} {o : Obj} (h : (b, o) ∈ L) : Has L b o := by
  induction L with
  | nil => cases h
  | cons x L ih => rcases List.mem_cons.1 h with rfl | h; exact .here; exact .there (ih h)
theorem Mem.has {w0 w : World} {L : Own} {b : Nat} {o : Obj} (h : Mem w0 w L) (hb : Has L b o) : w.heap[b]? = some o := (h.own _ hb.mem).2
/-- L' is L with block b's content o turned into o'. -/
inductive Put : Own → Nat → Obj → Obj → Own → Prop
  | here {b o o' L} : Put ((b, o) :: L) b o o' ((b, o') :: L)
  | there {b o o' x L L'} : Put L b o o' L' → Put (x :: L) b o o' (x :: L')
theorem Put.has {L L' : Own} {b : Nat} {o o' : Obj} (h : Put L b o o' L') : Has L b o := by
  induction h with
  | here => exact .here
  | there _ ih => exact .there ih
theorem Put.perm {L L' : Own} {b : Nat} {o o' : Obj} (h : Put L b o o' L') : ∃ R, L.Perm ((b, o) :: R) ∧ ((b, o') :: R).Perm L' := by
  induction h with
  | here => exact ⟨_, .refl _, .refl _⟩
  | @there b o o' x L L' _ ih =>
    obtain ⟨R, h1, h2⟩ := ih
    exact ⟨x :: R, (h1.cons x).trans (List.Perm.swap _ _ _), (List.Perm.swap _ _ _).trans (h2.cons x)⟩
theorem Mem.puts {w0 w : World} {L L' : Own} {b : Nat} {o o' : Obj} {w' : World} (h : Mem w0 w L) (hp : Put L b o o' L') (hos : w'.os = w.os) (htp : w'.tape = w.tape) (hou : w'.output = w.output)
    (hsz : w'.heap.size = w.heap.size) (hb : w'.heap[b]? = some o') (hne : ∀ k, k ≠ b → w'.heap[k]? = w.heap[k]?) : Mem w0 w' L' := by
  obtain ⟨R, h1, h2⟩ := hp.perm
  exact ((h.perm h1).put hos htp hou hsz hb hne).perm h2
/-- A row of cells. -/
def B (T : TypeId) (cs : List Value) : Obj := .cells cs.toArray T (0, 0)
theorem Mem.cellB {w0 w : World} {L : Own} {b T : Nat} {cs : List Value} (h : Mem w0 w L) (hb : Has L b (B T cs)) (o : Nat) : w.cell? ⟨b, o, none⟩ = cs[o]? := by
  simp [World.cell?, h.has hb, B]
theorem Rd.own {w0 : World} {L : Own} {b T o : Nat} {cs : List Value} {v : Value} (hb : Has L b (B T cs)) (hv : cs[o]? = some v) : Rd w0 L ⟨b, o, none⟩ v := fun w hM => by
  rw [hM.cellB hb]; exact hv
theorem Mem.notFrozenB {w0 w : World} {L : Own} {b T : Nat} {cs : List Value} (h : Mem w0 w L) (hb : Has L b (B T cs)) (o : Nat) : w.frozen? ⟨b, o, none⟩ = false := by
  simp [World.frozen?, h.has hb, B]
theorem Mem.setB {w0 w : World} {L L' : Own} {b T : Nat} {cs : List Value} {o : Nat} {v : Value} (h : Mem w0 w L) (hp : Put L b (B T cs) (B T (cs.set o v)) L') : Mem w0 (w.setCell ⟨b, o, none⟩ v) L' := by
  have hb := h.has hp.has
  refine h.puts hp rfl rfl rfl (by simp [World.setCell]) ?_ fun k hk => Below.heap_setCell _ _ _ _ hk
  simp [World.setCell, Array.getElem?_modify, hb, B]

/-! ### Judgements -/
abbrev Po := Exit → Fm → Own → Prop
section
variable (P : Program) (n : Nat) (w0 : World)
/-- Every function, any depth; in a round of loop r. -/
abbrev Fw (r : Option Nat) : Fence := { fn := fun _ => True, depth := none, alive := false, round := r }
def QA (ds : List Deferred) (Q : Po) : Exit → Act → World → Prop := fun e a w => ∃ f L, Fr ds n a f ∧ Mem w0 w L ∧ Q e f L
/-- A piece of code, in a plain frame (r = none) or in a round of loop r. -/
def CWI (r : Option Nat) (c : Code) (Q : Po) (f : Fm) (L : Own) : Prop := ∀ ds a w, Fr ds n a f → Mem w0 w L → c.wpIn (Fw r) 0 P (QA n w0 ds Q) a w
abbrev CW (c : Code) (Q : Po) (f : Fm) (L : Own) : Prop := CWI P n w0 none c Q f L
/-- How a list of operations is gone through: one after the other; in a region that draws its order, all quiet; one that only reads, taken first. -/
inductive Mo where
  | lex | quiet | take | yld
  deriving DecidableEq
/-- What an operation yields, in every world of the class. -/
def EvIn (P : Program) (C : World → Prop) (f : Fm) (o : Oper) (v : Value) : Prop := ∀ w, C w → (execOp (ev f) o).run P w = .ok (.value v) w
def yieldB (f : Fm) (ops : Array Oper) (i : Nat) : Option Bool :=
  match (ops[i]?).bind (·.dst) with
  | some d => match f d with
    | .bool b => some b
    | _ => none
  | none => none
def WT (ops : Array Oper) (Q : Po) : List Oper → Fm → Own → Prop
  | [], f, L => Q .normal f L
  | o :: rest, f, L => (Region.wanted o (yieldB f ops) = true ∧ ∃ v, EvIn P (fun w => Mem w0 w L) f o v ∧ WT ops Q rest (putf n f o.dst v) L) ∨ (Region.wanted o (yieldB f ops) = false ∧ WT ops Q rest (putf n f o.dst undef) L)
/-- A list of operations. -/
def W (q : Mo) (ops : Array Oper) (Q : Po) (l : List Oper) (f : Fm) (L : Own) : Prop :=
  match q with
  | .lex => (∀ r ds a w, Fr ds n a f → Mem w0 w L → wpListIn (Fw r) 0 P ops (QA n w0 ds Q) l a w) ∧ ∀ ds a w, Fr ds n a f → Mem w0 w L → wpList P ops (QA n w0 ds Q) l a w
  | .quiet => ∀ ds a, Fr ds n a f → wpQuiet P ops (fun w => Mem w0 w L) (fun a' => ∃ f', Fr ds n a' f' ∧ Q .normal f' L) l a
  | .take => WT P n w0 ops Q l f L
  | .yld => ∀ ds a w, Fr ds n a f → Mem w0 w L → wpListIn (Fw none) 0 P ops (QA n w0 ds Q) l a w
end

section control
variable {P : Program} {n : Nat} {w0 : World} {r : Option Nat} {Q : Po} {f : Fm} {L : Own}

theorem CWI.mono {c : Code} {Q' : Po} (h : CWI P n w0 r c Q f L) (hq : ∀ e f L, Q e f L → Q' e f L) : CWI P n w0 r c Q' f L :=
  fun ds a w ha hw => wpIn_mono (h ds a w ha hw) fun _ _ _ ⟨f, L, h1, h2, h3⟩ => ⟨f, L, h1, h2, hq _ _ _ h3⟩

def thenQ (N : Fm → Own → Prop) (Q : Po) : Po
  | .normal, f, L => N f L
  | e, f, L => Q e f L
def blkQ (id : Nat) (Q : Po) : Po
  | .exit id', f, L => if id' = id then Q .normal f L else Q (.exit id') f L
  | e, f, L => Q e f L

theorem c_seq {x y : Code} (h : CWI P n w0 r x (thenQ (CWI P n w0 r y Q) Q) f L) : CWI P n w0 r (.seq x y) Q f L := by
  intro ds a w ha hw
  refine wpIn_seq (wpIn_mono (h ds a w ha hw) ?_)
  rintro e a' w' ⟨f', L', h1, h2, h3⟩
  cases e with
  | normal => exact h3 ds a' w' h1 h2
  | exit id => exact ⟨f', L', h1, h2, h3⟩
  | goto l => exact ⟨f', L', h1, h2, h3⟩
  | ret => exact ⟨f', L', h1, h2, h3⟩
  | panic c => exact ⟨f', L', h1, h2, h3⟩
  | outgrown => exact ⟨f', L', h1, h2, h3⟩
/-- .. with what holds between them. -/
theorem c_seq_mid {x y : Code} (M : Fm → Own → Prop) (h : CWI P n w0 r x (thenQ M Q) f L) (h2 : ∀ f L, M f L → CWI P n w0 r y Q f L) : CWI P n w0 r (.seq x y) Q f L :=
  c_seq (h.mono fun e f L hq => by cases e <;> first | exact h2 _ _ hq | exact hq)
theorem c_skip (h : Q .normal f L) : CWI P n w0 r .skip Q f L := fun ds a w ha hw => wpIn_skip ⟨f, L, ha, hw, h⟩
theorem c_ret (h : Q .ret f L) : CWI P n w0 r .ret Q f L := fun ds a w ha hw => wpIn_ret ⟨f, L, ha, hw, h⟩
theorem c_exit {id : Nat} (h : Q (.exit id) f L) : CWI P n w0 r (.exit id) Q f L := fun ds a w ha hw => wpIn_exit ⟨f, L, ha, hw, h⟩
theorem c_block {id : Nat} {c : Code} (h : CWI P n w0 r c (blkQ id Q) f L) : CWI P n w0 r (.block id c) Q f L := by
  intro ds a w ha hw
  refine wpIn_block (wpIn_mono (h ds a w ha hw) ?_)
  rintro e a' w' ⟨f', L', h1, h2, h3⟩
  cases e with
  | exit id' =>
    simp only [Exit.inBlock, blkQ] at h3 ⊢
    split at h3
    · rename_i he; rw [if_pos he]; exact ⟨f', L', h1, h2, h3⟩
    · rename_i he; rw [if_neg he]; exact ⟨f', L', h1, h2, h3⟩
  | normal => exact ⟨f', L', h1, h2, h3⟩
  | goto l => exact ⟨f', L', h1, h2, h3⟩
  | ret => exact ⟨f', L', h1, h2, h3⟩
  | panic c => exact ⟨f', L', h1, h2, h3⟩
  | outgrown => exact ⟨f', L', h1, h2, h3⟩
/-- .. with what holds behind it. -/
theorem c_block_mid {id : Nat} {c : Code} (M : Fm → Own → Prop) (h : CWI P n w0 r c (blkQ id (thenQ M Q)) f L) (h2 : ∀ f L, M f L → Q .normal f L) : CWI P n w0 r (.block id c) Q f L :=
  (c_block (Q := thenQ M Q) h).mono fun e f L hq => by cases e <;> first | exact h2 _ _ hq | exact hq
theorem c_cond {c : Operand} {x y : Code} {b : Bool} (hc : ev f c = .bool b) (h1 : b = true → CWI P n w0 r x Q f L) (h2 : b = false → CWI P n w0 r y Q f L) : CWI P n w0 r (.cond c x y) Q f L := by
  intro ds a w ha hw
  refine wpIn_cond_split (t := b) (by rw [ha.eval, hc]) (fun h => h1 h ds a w ha hw) (fun h => h2 h ds a w ha hw)
theorem c_cond_d {c : Operand} {x y : Code} {p : Prop} [Decidable p] (hc : ev f c = .bool (decide p)) (h1 : p → CWI P n w0 r x Q f L) (h2 : ¬ p → CWI P n w0 r y Q f L) : CWI P n w0 r (.cond c x y) Q f L :=
  c_cond hc (fun h => h1 (of_decide_eq_true h)) (fun h => h2 (of_decide_eq_false h))
theorem c_cond_nd {c : Operand} {x y : Code} {p : Prop} [Decidable p] (hc : ev f c = .bool (!decide p)) (h1 : ¬ p → CWI P n w0 r x Q f L) (h2 : p → CWI P n w0 r y Q f L) : CWI P n w0 r (.cond c x y) Q f L :=
  c_cond hc (fun h => h1 (by simpa using h)) (fun h => h2 (by simpa using h))
theorem c_cond_t {c : Operand} {x y : Code} (hc : ev f c = .bool true) (h1 : CWI P n w0 r x Q f L) : CWI P n w0 r (.cond c x y) Q f L := c_cond hc (fun _ => h1) (fun h => by cases h)
theorem c_cond_f {c : Operand} {x y : Code} (hc : ev f c = .bool false) (h1 : CWI P n w0 r y Q f L) : CWI P n w0 r (.cond c x y) Q f L := c_cond hc (fun h => by cases h) (fun _ => h1)
theorem c_loop {c : Code} (I : Nat → Fm → Own → Prop) (m : Nat) (h0 : I m f L)
    (round : ∀ m f L, I m f L → CWI P n w0 r c (thenQ (fun f' L' => ∃ m', m' < m ∧ I m' f' L') Q) f L) : CWI P n w0 r (.loop c) Q f L := by
  intro ds a w ha hw
  refine wpIn_loop_ghost (fun m a w => ∃ f L, Fr ds n a f ∧ Mem w0 w L ∧ I m f L) m ⟨f, L, ha, hw, h0⟩ ?_
  rintro m a w ⟨f, L, ha, hw, hI⟩
  refine wpIn_mono (round m f L hI ds a w ha hw) ?_
  rintro e a' w' ⟨f', L', h1, h2, h3⟩
  cases e with
  | normal => obtain ⟨m', hm, hI'⟩ := h3; exact ⟨m', hm, f', L', h1, h2, hI'⟩
  | exit id => exact ⟨f', L', h1, h2, h3⟩
  | goto l => exact ⟨f', L', h1, h2, h3⟩
  | ret => exact ⟨f', L', h1, h2, h3⟩
  | panic c => exact ⟨f', L', h1, h2, h3⟩
  | outgrown => exact ⟨f', L', h1, h2, h3⟩
theorem c_region {id : Nat} {l : List Oper} (h : W P n w0 .lex l.toArray Q l f L) : CWI P n w0 r (.region id l.toArray false) Q f L :=
  fun ds a w ha hw => wpIn_region_lit (h.1 r ds a w ha hw)
theorem wpQuiet_imp {ops : Array Oper} {C : World → Prop} {R R' : Act → Prop} (hR : ∀ a, R a → R' a) : ∀ (l : List Oper) (a : Act), wpQuiet P ops C R l a → wpQuiet P ops C R' l a
  | [], a, h => hR a h
  | o :: l, a, h => by
    unfold wpQuiet at h ⊢
    split at h
    · rename_i hw; rw [if_pos hw]; exact Oper.quiet_mono (fun a => wpQuiet_imp hR l a) h
    · rename_i hw; rw [if_neg hw]; exact wpQuiet_imp hR l _ h
/-- .. in which a yield is called. -/
theorem c_region_y {id : Nat} {l : List Oper} (h : W P n w0 .yld l.toArray Q l f L) : CW P n w0 (.region id l.toArray false) Q f L :=
  fun ds a w ha hw => wpIn_region_lit (h ds a w ha hw)
theorem c_draw {id : Nat} {l : List Oper} (hm : P.follows .mixedOrders = true) (hB : Region.lexB .any l.toArray = true) (h : W P n w0 .quiet l.toArray Q l f L) : CW P n w0 (.region id l.toArray true) Q f L := by
  intro ds a w ha hw
  refine (wpIn_wide (n := 0)).2 (wp_region_quiet (C := fun w => Mem w0 w L) hm hB hw.drewN ?_)
  exact wpQuiet_imp (fun a' ⟨f', h1, h2⟩ w' hw' => ⟨f', L, h1, hw', h2⟩) _ _ (h ds a ha)
end control
end Go.Proofs.Ytnmhhelcaibdoaa.Sl
