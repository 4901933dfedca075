/- The walk's own calculus: ranges over functions: the loop's record, its rounds, the mark among the deferred calls. -/
import Derived.Test.YtnmhhelcaibdoaaSlU
namespace Go.Proofs.Ytnmhhelcaibdoaa.Sl
open Go Go.RowKit
set_option linter.unusedVariables false
set_option linter.unusedSimpArgs false
theorem yieldAt_mono {F : Fence} {m : Nat} {P : Program} {l : Nat} {args : Array Value} {W : World} {R R' : Ending → World → Prop} (h : YieldAt F m P l args W R) (hr : ∀ e w, R e w → R' e w) : YieldAt F m P l args W R' := by
  obtain ⟨fn, tmps, asg, body, h1, h2⟩ := h
  exact ⟨fn, tmps, asg, body, h1, h2.mono hr⟩
def mark (m : Nat) : Deferred := { target := .collected m, args := #[] }
abbrev dfo : Obj := .deferred (some [])
/-- The blocks for the rounds' deferred calls. -/
def mk (ms : List Nat) : Own := ms.map fun m => (m, dfo)
/-- A lies in M, in whatever order. -/
def In (A M : Own) : Prop := ∃ Mp, M.Perm Mp ∧ A.Sublist Mp
theorem Mem.in {w0 w : World} {A M : Own} (h : Mem w0 w M) (hi : In A M) : Mem w0 w A := by
  obtain ⟨Mp, h1, h2⟩ := hi
  exact (h.perm h1).drop h2
section
variable {P : Program} {n : Nat} {w0 : World} {Q : Po} {f : Fm} {L : Own}
def QM (n : Nat) (w0 : World) (Q : Po) : Exit → Act → World → Prop := fun e a w => ∃ ms f R, Fr (ms.map mark) n a f ∧ Mem w0 w (mk ms ++ R) ∧ Q e f R
/-- Code of a function that ranges over functions; ms: the marks so far. -/
def CM (P : Program) (n : Nat) (w0 : World) (ms : List Nat) (c : Code) (Q : Po) (f : Fm) (L : Own) : Prop := ∀ a w, Fr (ms.map mark) n a f → Mem w0 w L → c.wpIn (Fw none) 0 P (QM n w0 Q) a w
def keepQ (ms : List Nat) (Q : Po) : Po := fun e f L => ∃ R, In (mk ms ++ R) L ∧ Q e f R
def thenM (ms : List Nat) (N : Fm → Own → Prop) (Q : Po) : Po
  | .normal, f, L => N f L
  | e, f, L => keepQ ms Q e f L
theorem qm_of {ms : List Nat} {e : Exit} {a : Act} {w : World} (h : QA n w0 (ms.map mark) (keepQ ms Q) e a w) : QM n w0 Q e a w := by
  obtain ⟨f, L, h1, h2, R, h3, h4⟩ := h
  exact ⟨ms, f, R, h1, h2.in h3, h4⟩
theorem m_of {ms : List Nat} {c : Code} (h : CW P n w0 c (keepQ ms Q) f L) : CM P n w0 ms c Q f L :=
  fun a w ha hM => wpIn_mono (h _ a w ha hM) fun e a w h => qm_of h
theorem m_seq {ms : List Nat} {x y : Code} (h : CW P n w0 x (thenM ms (CM P n w0 ms y Q) Q) f L) : CM P n w0 ms (.seq x y) Q f L := by
  intro a w ha hM
  refine wpIn_seq (wpIn_mono (h _ a w ha hM) ?_)
  rintro e a' w' ⟨f', L', h1, h2, h3⟩
  cases e with
  | normal => exact h3 a' w' h1 h2
  | exit id => exact qm_of ⟨f', L', h1, h2, h3⟩
  | goto l => exact qm_of ⟨f', L', h1, h2, h3⟩
  | ret => exact qm_of ⟨f', L', h1, h2, h3⟩
  | panic c => exact qm_of ⟨f', L', h1, h2, h3⟩
  | outgrown => exact qm_of ⟨f', L', h1, h2, h3⟩
theorem CM.weak {ms : List Nat} {c : Code} {L' : Own} (h : CM P n w0 ms c Q f L') (hs : In L' L) : CM P n w0 ms c Q f L := fun a w ha hM => h a w ha (hM.in hs)
theorem m_mid_ov {ms : List Nat} {x y : Code} (D : List Nat) (M : List (Nat × Value) → Own → Prop) (h : CW P n w0 x (thenM ms (Md D f M) Q) f L)
    (h2 : ∀ s L' g, M s L' → CM P n w0 ms y Q (upds n (ov D g f) s) L') : CM P n w0 ms (.seq x y) Q f L :=
  m_seq (h.mono fun e f' L' hq => by
    cases e with
    | normal =>
      obtain ⟨hA, s', L3, h3, h4, h5⟩ := hq
      have := (h2 s' L3 f' h5).weak ⟨_, List.Perm.refl _, h3⟩
      show CM P n w0 ms y Q f' L'
      rwa [← hA.eq, upds_self h4] at this
    | _ => exact hq)
theorem tm_n {ms : List Nat} {N : Fm → Own → Prop} (h : N f L) : thenM ms N Q .normal f L := h
theorem tm_r {ms : List Nat} {N : Fm → Own → Prop} (h : keepQ ms Q .ret f L) : thenM ms N Q .ret f L := h
theorem tm_e {ms : List Nat} {N : Fm → Own → Prop} {id : Nat} (h : keepQ ms Q (.exit id) f L) : thenM ms N Q (.exit id) f L := h
theorem np_keep {ms : List Nat} (h : NoPan Q) : NoPan (keepQ ms Q) := fun c f L ⟨R, _, h2⟩ => h c f R h2
theorem np_thenm {ms : List Nat} {N : Fm → Own → Prop} (h : NoPan Q) : NoPan (thenM ms N Q) := fun c f L hq => np_keep h c f L hq
theorem in_nil : In (mk [] ++ L) L := ⟨L, List.Perm.refl _, List.Sublist.refl _⟩
/-- No mark yet. -/
theorem kq_0 {e : Exit} (h : Q e f L) : keepQ [] Q e f L := ⟨L, in_nil, h⟩
/-- A block taken out of the list. -/
class TakC (L : Own) (b : Nat) (o : outParam Obj) (R : outParam Own) : Prop where out : L.Perm ((b, o) :: R)
instance (priority := 2000) TakC.here {b : Nat} {o : Obj} {L : Own} : TakC ((b, o) :: L) b o L := ⟨List.Perm.refl _⟩
instance (priority := 1900) TakC.there {b : Nat} {o : Obj} {x : Nat × Obj} {L R : Own} [h : TakC L b o R] : TakC (x :: L) b o (x :: R) := ⟨(h.out.cons x).trans (List.Perm.swap _ _ _)⟩
instance (priority := 1800) TakC.app {b : Nat} {o : Obj} {S L R : Own} [h : TakC L b o R] : TakC (S ++ L) b o (S ++ R) := ⟨(List.Perm.append_left S h.out).trans List.perm_middle⟩
/-- One mark. -/
theorem kq_1 {e : Exit} {m : Nat} {R : Own} [h : TakC L m dfo R] (hq : Q e f R) : keepQ [m] Q e f L := ⟨R, ⟨_, h.out, List.Sublist.refl _⟩, hq⟩

class TakX (L : Own) (x : Nat × Obj) (R : outParam Own) : Prop where out : L.Perm (x :: R)
instance (priority := 2000) TakX.here {x : Nat × Obj} {L : Own} : TakX (x :: L) x L := ⟨List.Perm.refl _⟩
instance (priority := 1900) TakX.there {x y : Nat × Obj} {L R : Own} [h : TakX L x R] : TakX (y :: L) x (y :: R) := ⟨(h.out.cons y).trans (List.Perm.swap _ _ _)⟩
instance (priority := 1800) TakX.app {x : Nat × Obj} {S L R : Own} [h : TakX L x R] : TakX (S ++ L) x (S ++ R) := ⟨(List.Perm.append_left S h.out).trans List.perm_middle⟩
class TakS (L S : Own) (R : outParam Own) : Prop where out : L.Perm (S ++ R)
instance (priority := 2000) TakS.here {S L : Own} : TakS (S ++ L) S L := ⟨List.Perm.refl _⟩
instance (priority := 1900) TakS.there {S : Own} {y : Nat × Obj} {L R : Own} [h : TakS L S R] : TakS (y :: L) S (y :: R) := ⟨(h.out.cons y).trans List.perm_middle.symm⟩
instance (priority := 1800) TakS.app {S T L R : Own} [h : TakS L S R] : TakS (T ++ L) S (T ++ R) := ⟨(List.Perm.append_left T h.out).trans (by rw [← List.append_assoc, ← List.append_assoc]; exact List.Perm.append_right _ List.perm_append_comm)⟩
theorem in_sp {A A' M : Own} (hs : A'.Sublist M) (hp : A'.Perm A) : In A M := by
  obtain ⟨l, hl⟩ := hs.exists_perm_append
  exact ⟨A ++ l, hl.trans (List.Perm.append_right l hp), List.sublist_append_left _ _⟩
/-! ### A function's entry -/
theorem Mem.putObj {w : World} {b : Nat} {o o' : Obj} {R : Own} (h : Mem w0 w ((b, o) :: R)) : Mem w0 (w.putObj b o') ((b, o') :: R) := by
  have hlt := h.lt (x := (b, o)) (by simp)
  exact h.put rfl rfl rfl World.putObj_size (World.putObj_heap_same hlt) fun k hk => World.putObj_heap_other hk
theorem leaves {fn : Func} {tmps : Array Value} {Rr : Ending → World → Prop} {R : Own} (h : ∀ w, Mem w0 w R → ∃ v, (results fn tmps).run P w = .ok v w ∧ Rr (.returned v) w) :
    ∀ (ms : List Nat) (w : World), Mem w0 w (mk ms ++ R) → LeavesInM (Fw none) 0 P fn tmps Rr (ms.map mark) .returning w
  | [], w, hM => h w hM
  | m :: ms, w, hM => by
    have hM' : Mem w0 w ((m, dfo) :: (mk ms ++ R)) := hM
    refine ⟨by simp, .inl ⟨m, w.putObj m (.deferred none), rfl, run_takeDeferred (hM'.own (m, dfo) (by simp)).2, ?_⟩⟩
    exact leaves h ms _ ((hM'.putObj (o' := .deferred none)).drop (List.sublist_cons_self _ _))
theorem enterM {rs : List ResultVar} {k : Nat} {fn : Func} {c : Code} {args : List Value} {R : Value → Own → Prop} (hf : P.funcs[k]? = some fn) (hb : fn.body = some c) (hn : fn.ntmps = n) (hr : fn.results = rs.toArray) (hl : args.length ≤ n)
    (h : CM P n w0 [] c (retQ P w0 rs R) (ini args) L) : Gives P w0 L k args R := by
  intro w hM
  subst hn
  refine (callsIn_wide (n := 0)).1 (callsIn_of_wp_marks hf hb trivial (wpIn_mono (h _ w (ini_fr hl) hM) ?_))
  rintro e a w' ⟨ms, f', R', h1, h2, h3⟩
  cases e <;> simp only [retQ] at h3
  all_goals
    obtain ⟨vs, L2, h4, h5, h6⟩ := h3
    show LeavesInM (Fw none) 0 P fn a.tmps _ a.defers .returning w'
    rw [h1.defers]
    exact leaves (R := R') (fun w'' hM'' => ⟨_, results_run h1 hM'' (by rw [hr]; exact h4), _, L2, rfl, hM''.drop h5, h6⟩) ms w' h2
/-- .. from the world of the call on. -/
theorem enterMB {rs : List ResultVar} {k : Nat} {fn : Func} {c : Code} {args : List Value} {R : Value → Own → Prop} (hf : P.funcs[k]? = some fn) (hb : fn.body = some c) (hn : fn.ntmps = n) (hr : fn.results = rs.toArray) (hl : args.length ≤ n)
    (h : ∀ w, Mem w0 w L → CM P n w [] c (retQ P w rs R) (ini args) []) : Gives P w0 L k args (fun v L' => ∃ S, L' = S ++ L ∧ R v S) := by
  intro w hM
  refine (enterM hf hb hn hr hl (h w hM) w (Mem.refl w)).mono ?_
  rintro e w' ⟨v, L', h1, h2, h3⟩
  exact ⟨v, L' ++ L, h1, hM.trans h2, L', rfl, h3⟩

/-! ### The statement -/
/-- The loop's record. -/
abbrev recO (fn : FuncId) (tmps : Array Value) (ps : List Nat) (assign body : Code) (d : Nat) (st : LoopState) (pend : Option Code) : Obj := .loop { state := st, pending := pend, fn := fn, tmps := tmps, params := ps.toArray, assign := assign, body := body, defers := d }
theorem fold_fr {ps : List Nat} {vs : List Value} {ts : Array Value} (hs : ts.size = n) : ∀ {g : Fm}, (∀ i, ts.getD i undef = g i) → Fr [] n { tmps := (ps.zip vs).foldl (fun tmps (x : Nat × Value) => tmps.setIfInBounds x.1 x.2) ts, defers := [] } (upds n g (ps.zip vs)) := by
  generalize ps.zip vs = l
  induction l generalizing ts with
  | nil => intro g hg; exact ⟨rfl, hs, hg⟩
  | cons x l ih =>
    intro g hg
    simp only [List.foldl_cons, upds]
    refine ih (by simpa using hs) fun i => ?_
    exact (Fr.put (ds := []) (a := { tmps := ts, defers := [] }) ⟨rfl, hs, hg⟩ (some x.1) x.2).val i
/-- A round: the assignment to the loop's variables, then the body; o: what the record's block holds till the assignment is done, o2: then. -/
def Rnd (P : Program) (n : Nat) (w0 : World) (l : Nat) (assign body : Code) (o2 : Obj) (E : Own → Prop) (f : Fm) (o : Obj) (L : Own) : Prop :=
  CWI P n w0 (some l) assign (fun e f1 M1 => e = .normal ∧ ∃ X1, In ((l, o) :: X1) M1 ∧ CWI P n w0 (some l) body (fun e f2 M2 => e = .normal ∧ ∃ X2, In ((l, o2) :: X2) M2 ∧ E X2) f1 ((l, o2) :: X1)) f ((l, o) :: L)
theorem rnd {l : Nat} {assign body : Code} {o2 : Obj} {E : Own → Prop} {f : Fm} {o : Obj} {L : Own} (h : CWI P n w0 (some l) assign (fun e f1 M1 => e = .normal ∧ ∃ X1, In ((l, o) :: X1) M1 ∧ CWI P n w0 (some l) body (fun e f2 M2 => e = .normal ∧ ∃ X2, In ((l, o2) :: X2) M2 ∧ E X2) f1 ((l, o2) :: X1)) f ((l, o) :: L)) : Rnd P n w0 l assign body o2 E f o L := h
theorem asg_n {l : Nat} {o : Obj} {M1 X1 : Own} {N : Own → Prop} [h : TakX M1 (l, o) X1] (hN : N X1) : Exit.normal = Exit.normal ∧ ∃ X1, In ((l, o) :: X1) M1 ∧ N X1 := ⟨rfl, X1, ⟨_, h.out, List.Sublist.refl _⟩, hN⟩
theorem bod_n {l : Nat} {o2 : Obj} {M2 X2 : Own} {E : Own → Prop} [h : TakX M2 (l, o2) X2] (hE : E X2) : Exit.normal = Exit.normal ∧ ∃ X2, In ((l, o2) :: X2) M2 ∧ E X2 := ⟨rfl, X2, ⟨_, h.out, List.Sublist.refl _⟩, hE⟩
/-- The other block stays, and what else is named. -/
theorem in_x {x0 : Nat × Obj} {X R L1 : Own} [h : TakX X x0 R] (hs : L1.Sublist R) : In (x0 :: L1) X := ⟨_, h.out, hs.cons_cons _⟩
theorem round_yields {l : Nat} {fn : FuncId} {tmps : Array Value} {ps : List Nat} {assign body : Code} {d : Nat} {vs : List Value} {L : Own} {E : Own → Prop} (ht : tmps.size = n) (hf : ∀ i, tmps.getD i undef = f i) (hl : vs.length = ps.length)
    (h : Rnd P n w0 l assign body (recO fn tmps ps assign body d .busy none) E (upds n f (ps.zip vs)) (recO fn tmps ps assign body d .ready none) L) :
    YldG P w0 ((l, recO fn tmps ps assign body d .ready none) :: L) l vs (fun v M' => v = .bool true ∧ ∃ X, M' = (l, recO fn tmps ps assign body d .ready none) :: X ∧ E X) := by
  intro w hM
  have hrec := (hM.own (l, recO fn tmps ps assign body d .ready none) (by simp)).2
  refine ⟨fn, _, assign, body, run_yield hrec (by simpa using hl), ?_⟩
  refine roundIn_of_wpIn (F := Fence.wide) trivial ?_
  have hfr := fold_fr (n := n) (ps := ps) (vs := vs) ht hf
  have e : (Array.foldl (fun tmps (x : Nat × Value) => match x with | (t, a) => tmps.setIfInBounds t a) tmps (ps.toArray.zip vs.toArray)) = (ps.zip vs).foldl (fun tmps (x : Nat × Value) => tmps.setIfInBounds x.1 x.2) tmps := by
    rw [List.zip_toArray, List.foldl_toArray]
  have h1 := h [] _ w hfr hM
  show assign.wpIn (Fw (some l)) 0 P _ { tmps := Array.foldl _ tmps (ps.toArray.zip vs.toArray), defers := [] } w
  rw [e]
  refine wpIn_mono h1 ?_
  rintro e a1 w1 ⟨f1, M1, g1, g2, rfl, X1, g3, g4⟩
  have hM1 := g2.in g3
  refine ⟨_, run_beginRound (hM1.own (l, recO fn tmps ps assign body d .ready none) (by simp)).2 rfl, ?_⟩
  refine wpIn_mono (g4 [] a1 _ g1 hM1.putObj) ?_
  rintro e a2 w2 ⟨f2, M2, k1, k2, rfl, X2, k3, k4⟩
  have hM2 := k2.in k3
  refine ⟨_, _, run_endRound none (hM2.own (l, recO fn tmps ps assign body d .busy none) (by simp)).2, _, _, rfl, ?_, rfl, X2, rfl, k4⟩
  exact hM2.putObj
/-- A piece of code that may end in a range; N: what holds behind it, of the marks then laid. -/
def CMT (P : Program) (n : Nat) (w0 : World) (ms : List Nat) (c : Code) (N : List Nat → Fm → Own → Prop) (Q : Po) (f : Fm) (L : Own) : Prop :=
  ∀ a w, Fr (ms.map mark) n a f → Mem w0 w L → c.wpIn (Fw none) 0 P (Exit.then (fun a' w' => ∃ ms' f' L', Fr (ms'.map mark) n a' f' ∧ Mem w0 w' L' ∧ N ms' f' L') (QM n w0 Q)) a w
theorem m_seqT {ms : List Nat} {x y : Code} (h : CMT P n w0 ms x (fun ms' f L => CM P n w0 ms' y Q f L) Q f L) : CM P n w0 ms (.seq x y) Q f L := by
  intro a w ha hM
  refine wpIn_seq (wpIn_mono (h a w ha hM) ?_)
  intro e a' w' hq
  cases e with
  | normal => obtain ⟨ms', f', L', h1, h2, h3⟩ := hq; exact h3 a' w' h1 h2
  | _ => exact hq
theorem t_seq {ms : List Nat} {x y : Code} {N : List Nat → Fm → Own → Prop} (h : CW P n w0 x (thenM ms (CMT P n w0 ms y N Q) Q) f L) : CMT P n w0 ms (.seq x y) N Q f L := by
  intro a w ha hM
  refine wpIn_seq (wpIn_mono (h _ a w ha hM) ?_)
  rintro e a' w' ⟨f', L', h1, h2, h3⟩
  cases e with
  | normal => exact h3 a' w' h1 h2
  | exit id => exact qm_of ⟨f', L', h1, h2, h3⟩
  | goto l => exact qm_of ⟨f', L', h1, h2, h3⟩
  | ret => exact qm_of ⟨f', L', h1, h2, h3⟩
  | panic c => exact qm_of ⟨f', L', h1, h2, h3⟩
  | outgrown => exact qm_of ⟨f', L', h1, h2, h3⟩
theorem m_range {α : Type} {id gk : Nat} {g : Operand} {ps : List Nat} {assign body : Code} {N : List Nat → Fm → Own → Prop} {lb : List Value} {ms : List Nat} {L0 : Own} (en : α → List Value) (xs : List α) (I : List α → Own → Prop)
    (hx : ev f g = .func (.func gk) #[] lb.toArray) (hF : FNb P gk = true) (hlen : ∀ x, (en x).length = ps.length) (hL : In L0 L) (h0 : I [] L0)
    (iter : ∀ (w0 : World) (l : Nat) (J : List α → Own → Prop), (∀ pre M, J pre M → ∃ L1, L1.Sublist M ∧ I pre L1) → (∀ pre x M, (pre ++ [x]) <+: xs → J pre M → YldG P w0 M l (en x) (fun v M' => v = .bool true ∧ J (pre ++ [x]) M')) →
      ∀ M, J [] M → Gives P w0 M gk (.func (.yield l) #[] #[] :: lb) (fun v M' => J xs M'))
    (round : ∀ l o o2 x0 pre x L1, (pre ++ [x]) <+: xs → I pre L1 → Rnd P n w0 l assign body o2 (fun X => ∃ L1', In (x0 :: L1') X ∧ I (pre ++ [x]) L1') (upds n f (ps.zip (en x))) o (x0 :: L1))
    (cont : ∀ d L1, I xs L1 → N (d :: ms) f ((d, dfo) :: L1)) : CMT P n w0 ms (.block id (.rangeFunc g ps.toArray assign body)) N Q f L := by
  intro a w ha hM0
  have hM := hM0.in hL
  refine wpIn_block (wpIn_rangeFunc fun fn _ => ?_)
  obtain ⟨W1, hW1⟩ : ∃ W1, (w.alloc dfo).alloc (recO fn a.tmps ps assign body w.heap.size .ready none) = W1 := ⟨_, rfl⟩
  refine ⟨w.heap.size + 1, [mark w.heap.size], W1, { target := .fn (.func gk) lb.toArray, args := #[.func (.yield (w.heap.size + 1)) #[] #[]] }, W1, gk, (.func (.yield (w.heap.size + 1)) #[] #[] :: lb).toArray, W1, hW1 ▸ run_enterLoop_outer fn a.tmps ps.toArray assign body, ?_, ?_, ?_, ?_, ?_⟩
  · rw [ha.eval_fun]
    simp only [resolve, rangeCall, hx, Deferred.ofValue, Sem.run_bind, Sem.run_pure, Result.andThen_ok]
    simp [ev]
  · exact fun _ _ => trivial
  · simp only [invoke]
    rw [show #[Value.func (.yield (w.heap.size + 1)) #[] #[]] ++ lb.toArray = (.func (.yield (w.heap.size + 1)) #[] #[] :: lb).toArray by apply Array.ext'; simp]
    exact callFunc_run hF _ _
  · exact fun h => by cases h
  · have hM2 : Mem w0 W1 ((w.heap.size + 1, recO fn a.tmps ps assign body w.heap.size .ready none) :: (w.heap.size, dfo) :: L0) := by
      have := (hM.new dfo).new (recO fn a.tmps ps assign body w.heap.size .ready none)
      rw [hW1] at this
      simpa using this
    obtain ⟨ro, hro⟩ : ∃ ro, recO fn a.tmps ps assign body w.heap.size .ready none = ro := ⟨_, rfl⟩
    rw [hro] at hM2
    refine calls_in (r := none) (((iter w0 (w.heap.size + 1) (fun pre M => ∃ L1, M = (w.heap.size + 1, ro) :: (w.heap.size, dfo) :: L1 ∧ I pre L1) ?_ ?_ _ ⟨L0, rfl, h0⟩) _ hM2).mono ?_)
    · rintro pre M ⟨L1, rfl, h1⟩
      exact ⟨L1, (List.sublist_cons_self _ _).trans (List.sublist_cons_self _ _), h1⟩
    · rintro pre x M hpre ⟨L1, rfl, h1⟩
      have := round_yields (fn := fn) (tmps := a.tmps) (d := w.heap.size) ha.size ha.val (hlen x) (round (w.heap.size + 1) ro _ (w.heap.size, dfo) pre x L1 hpre h1 |> fun h => hro ▸ h)
      rw [hro] at this
      intro w' hM'
      refine yieldAt_mono (this w' hM') ?_
      rintro e w'' ⟨v, M', h1, h2, h3, X, h4, L1', h5, h6⟩
      refine ⟨v, _, h1, ?_, h3, L1', rfl, h6⟩
      subst h4
      obtain ⟨Mp, k1, k2⟩ := h5
      exact (h2.perm (k1.cons _)).drop (k2.cons_cons _)
    · rintro e w' ⟨v, M', rfl, hM', L1, rfl, h1⟩
      subst hro
      refine ⟨none, _, run_endLoop (hM'.own (w.heap.size + 1, recO fn a.tmps ps assign body w.heap.size .ready none) (by simp)).2 (by simp), ?_⟩
      refine ⟨w.heap.size :: ms, f, _, ?_, ((hM'.putObj (o' := .loop { state := .exhausted, pending := none, fn := fn, tmps := a.tmps, params := ps.toArray, assign := assign, body := body, defers := w.heap.size })).drop (List.sublist_cons_self _ _)), cont w.heap.size L1 h1⟩
      exact ⟨by simp [ha.defers], ha.size, ha.val⟩
end
section
variable {P : Program} {n : Nat} {w0 : World} {ops : Array Oper} {Q : Po} {rest : List Oper} {f : Fm} {L : Own} {ty : Nat} {dst : Option Nat} {pos : String} {af : Array Edge} {g : Option (Nat × Bool)}
/-- clear of a slice of one-cell elements. -/
theorem x_clr {T E T' : Nat} {z : Value} [hS : CSL P T E] [hZ : CZ1 P E z] {x : Operand} {b o m cap : Nat} {cs : List Value} {L' : Own} (hw : Region.wanted ⟨dst, .call { callee := .builtin .clear, args := #[x], argTypes := #[T] }, ty, pos, af, g⟩ (yieldB f ops) = true)
    (hx : ev f x = .slice (some ⟨b, o, none⟩) m cap) (hp : Put L b (B T' cs) (B T' (setAll cs o (List.replicate m z))) L') (hl : o + m ≤ cs.length) (hz1 : z.oneCell' = true)
    (k : W P n w0 .lex ops Q rest (putf n f dst (.tuple #[])) L') : W P n w0 .lex ops Q (⟨dst, .call { callee := .builtin .clear, args := #[x], argTypes := #[T] }, ty, pos, af, g⟩ :: rest) f L :=
  w_act hw fun w hM => by
    have hun : (underlying T).run P w = .ok (.slice E) w := by simp [underlying, program, Sem.run, hS.out]
    have hZ' := hZ.out
    cases hi : P.info? E with
    | none => simp [hi] at hZ'
    | some inf =>
      simp only [hi, Option.bind_some] at hZ'
      cases hzz : inf.zero with
      | none => simp [hzz] at hZ'
      | some zz =>
        simp only [hzz, Option.map_some, Option.some.injEq] at hZ'
        have hzero : (zeroValue E).run P w = .ok zz w := by simp [zeroValue, typeInfo, program, Sem.run, hi, hzz]
        rcases Nat.eq_zero_or_pos m with hm | hm
        · subst hm
          have hLL : L = L' := by
            have : setAll cs o (List.replicate 0 z) = cs := rfl
            rw [this] at hp; exact hp.eq_same
          subst hLL
          refine ⟨.tuple #[], L, w, ?_, hM, k⟩
          simp only [execOp, resolve, invoke, builtin, Sem.run_bind, Sem.run_pure, Result.andThen_ok, List.map_toArray, List.map_cons, List.map_nil, hx, Builtin.clear_]
          simp [hun]
        · obtain ⟨R, h1, h2⟩ := hp.perm
          obtain ⟨w', h3, h4⟩ := storeCells_run (P := P) (List.replicate m z) 0 o cs w (hM.perm h1) (by simp [hz1]) (by simpa using hl)
          refine ⟨.tuple #[], L', w', ?_, (by simpa using h4 : Mem w0 w' ((b, B T' (setAll cs o (List.replicate m z))) :: R)).perm h2, k⟩
          have hzc : (Builtin.zeroCells zz.cells m).toList = List.replicate m z := by
            simp only [Builtin.zeroCells, hZ']
            apply List.ext_getElem
            · simp
            · intro i h1 h2
              simp [Nat.mod_one]
          simp only [execOp, resolve, invoke, builtin, Sem.run_bind, Sem.run_pure, Result.andThen_ok, List.map_toArray, List.map_cons, List.map_nil, hx, Builtin.clear_]
          match m, hm with
          | m + 1, _ =>
            simp [hun, hzero, hzc, h3]
theorem YldG.weak {l : Nat} {args : List Value} {M : Own} {R : Value → Own → Prop} (h : YldG P w0 M l args R) (hs : M.Sublist L) : YldG P w0 L l args R := fun w hM => h w (hM.drop hs)
end
end Go.Proofs.Ytnmhhelcaibdoaa.Sl
