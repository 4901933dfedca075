/- The walk's own calculus, part eight: regions that draw their order and write; what is stored into owned slices; copy; slices of slices. -/
import Derived.Test.YtnmhhelcaibdoaaSl7
import Derived.OrdersHeld
namespace Go.Proofs.Ytnmhhelcaibdoaa.Sl
open Go Go.RowKit
set_option linter.unusedVariables false
set_option linter.unusedSimpArgs false

section
variable {P : Program} {ops : Array Oper} {md : Region.Mode} {Q' : Exit → Act → World → Prop} {w0 : World} {A : Own} {Wr : List Nat}
/-- While no writer has come up, the held list stands. -/
def Hd (w0 : World) (A : Own) (Wr : List Nat) (listed : Array Bool) (w : World) : Prop := Mem w0 w [] ∧ ((∃ k ∈ Wr, listed.getD k false = true) ∨ Mem w0 w A)
def wpG (P : Program) (md : Region.Mode) (ops : Array Oper) (Q' : Exit → Act → World → Prop) (w0 : World) (A : Own) (Wr : List Nat) : Nat → Array Bool → Act → World → Prop
  | 0, listed, a, w => Region.ready md ops listed = [] ∧ Q' .normal a w
  | fuel + 1, listed, a, w =>
    (Region.ready md ops listed = [] → Q' .normal a w) ∧
    ∀ i ∈ Region.ready md ops listed, wpOp P ops Q' i (fun a' w' => Hd w0 A Wr (listed.setIfInBounds i true) w' ∧ wpG P md ops Q' w0 A Wr fuel (listed.setIfInBounds i true) a' w') a w
theorem wpAny_of_wpG : ∀ (fuel : Nat) (listed : Array Bool) (a : Act) (w : World), wpG P md ops Q' w0 A Wr fuel listed a w → wpAny P md ops Q' fuel listed a w
  | 0, _, _, _, h => h
  | fuel + 1, _, _, _, h => ⟨h.1, fun i hi => wpOp_mono (fun a' w' h' => wpAny_of_wpG fuel _ a' w' h'.2) (h.2 i hi)⟩
theorem getD_set_ne' {listed : Array Bool} {j k : Nat} (h : k ≠ j) : (listed.setIfInBounds j true).getD k false = listed.getD k false := by
  rw [getD_set_ne false (Ne.symm h)]
theorem wpG_first {i : Nat} {oi : Oper} {v : Value} (hi : ops[i]? = some oi) (hsel : ∀ (j : Nat) (o : Oper) cs b, ops[j]? = some o → o.op ≠ .select cs b)
    (hQ : ∀ c a w, Q' (.panic c) (a.put oi.dst v) w → Q' (.panic c) a w)
    (hbar : ∀ k ∈ Wr, ∃ ok, ops[k]? = some ok ∧ ∃ e ∈ ok.after, Region.binds md e = true ∧ e.on = i) :
    ∀ (fuel : Nat) (listed : Array Bool) (a : Act) (w : World),
      (∀ j oj, ops[j]? = some oj → j ≠ i → listed.getD j true = false → (∀ e ∈ oj.after, Region.binds md e = true → e.on ≠ i) → oi.apart ops oj = true) →
      (∀ k ∈ Wr, listed.getD k false = false) →
      i ∈ Region.ready md ops listed → YieldsIf P ops (fun w => Mem w0 w A) oi v a → Mem w0 w A →
      wpG P md ops Q' w0 A Wr fuel (listed.setIfInBounds i true) (a.put oi.dst v) w → wpG P md ops Q' w0 A Wr (fuel + 1) listed a w := by
  have hiW : ∀ listed, i ∈ Region.ready md ops listed → i ∉ Wr := fun listed hr hm => by
    obtain ⟨ok, hok, e, he, hb, hon⟩ := hbar i hm
    obtain ⟨hun, o', ho', hall⟩ := mem_ready.1 hr
    have : ok = o' := Option.some.inj (hok.symm.trans ho')
    subst this
    have h2 := hall e he hb
    rw [hon] at h2
    rcases Nat.lt_or_ge i listed.size with h' | h'
    · simp [h'] at hun h2; rw [hun] at h2; cases h2
    · simp [Array.getElem?_eq_none h'] at h2
  intro fuel
  induction fuel with
  | zero =>
    intro listed a w _ hW hr hy hS H
    refine ⟨fun h => (by rw [h] at hr; cases hr), fun j hj => ?_⟩
    by_cases hji : j = i
    · subst hji; exact hy.wpOp hi hS ⟨⟨hS.drop (List.nil_sublist _), .inr hS⟩, H⟩
    · have := ready_mono hj hji
      rw [H.1] at this
      cases this
  | succ fuel ih =>
    intro listed a w hfree hW hr hy hS H
    refine ⟨fun h => (by rw [h] at hr; cases hr), fun j hj => ?_⟩
    by_cases hji : j = i
    · subst hji; exact hy.wpOp hi hS ⟨⟨hS.drop (List.nil_sublist _), .inr hS⟩, H⟩
    · have h1 := H.2 j (ready_mono hj hji)
      obtain ⟨hjun, oj, hoj, hall⟩ := mem_ready.1 hj
      have hnot : ∀ e ∈ oj.after, Region.binds md e = true → e.on ≠ i := fun e he hb heq => by
        have h1 := hall e he hb
        have h0 := (mem_ready.1 hr).1
        rw [heq] at h1
        rcases Nat.lt_or_ge i listed.size with h' | h'
        · simp [h'] at h0 h1; rw [h0] at h1; cases h1
        · simp [Array.getElem?_eq_none h'] at h1
      have hjW : j ∉ Wr := fun hm => by
        obtain ⟨ok, hok, e, he, hb, hon⟩ := hbar j hm
        have : ok = oj := Option.some.inj (hok.symm.trans hoj)
        subst this
        exact hnot e he hb hon
      have h2 := wpOp_putIf hoj (hfree j oj hoj hji hjun hnot) (fun cs b => hsel i oi cs b hi) (fun cs b => hsel j oj cs b hoj) hQ hy h1
      have hfree' : ∀ k ok, ops[k]? = some ok → k ≠ i → (listed.setIfInBounds j true).getD k true = false →
          (∀ e ∈ ok.after, Region.binds md e = true → e.on ≠ i) → oi.apart ops ok = true := fun k ok hk hki hun hno => by
        refine hfree k ok hk hki ?_ hno
        by_cases hjk : j = k
        · subst hjk; exact hjun
        · rw [getD_set_ne true hjk] at hun; exact hun
      have hW' : ∀ k ∈ Wr, (listed.setIfInBounds j true).getD k false = false := fun k hk => by
        rw [getD_set_ne' (fun (e : k = j) => hjW (e ▸ hk))]; exact hW k hk
      refine wpOp_mono (fun a' w' h3 => ?_) h2
      have hM : Mem w0 w' A := by
        rcases h3.2.1.2 with ⟨k, hk, hkl⟩ | hM
        · rw [getD_set_ne' (fun (e : k = j) => hjW (e ▸ hk)), getD_set_ne' (fun (e : k = i) => hiW _ hr (e ▸ hk)), hW k hk] at hkl
          cases hkl
        · exact hM
      refine ⟨⟨hM.drop (List.nil_sublist _), .inr hM⟩, ih (listed.setIfInBounds j true) a' w' hfree' hW' (ready_mono hr (Ne.symm hji)) h3.1 hM ?_⟩
      rw [Array.setIfInBounds_comm _ _ hji]
      exact h3.2.2
/-- .. one that leans on the base alone: no writer stands in its way. -/
theorem wpG_first0 {i : Nat} {oi : Oper} {v : Value} (hi : ops[i]? = some oi) (hsel : ∀ (j : Nat) (o : Oper) cs b, ops[j]? = some o → o.op ≠ .select cs b)
    (hQ : ∀ c a w, Q' (.panic c) (a.put oi.dst v) w → Q' (.panic c) a w) (hiW : i ∉ Wr) :
    ∀ (fuel : Nat) (listed : Array Bool) (a : Act) (w : World),
      (∀ j oj, ops[j]? = some oj → j ≠ i → listed.getD j true = false → (∀ e ∈ oj.after, Region.binds md e = true → e.on ≠ i) → oi.apart ops oj = true) →
      i ∈ Region.ready md ops listed → YieldsIf P ops (fun w => Mem w0 w []) oi v a → Hd w0 A Wr listed w →
      wpG P md ops Q' w0 A Wr fuel (listed.setIfInBounds i true) (a.put oi.dst v) w → wpG P md ops Q' w0 A Wr (fuel + 1) listed a w := by
  have hset : ∀ listed w, Hd w0 A Wr listed w → Hd w0 A Wr (listed.setIfInBounds i true) w := fun listed w ⟨h1, h2⟩ => ⟨h1, h2.imp (fun ⟨k, hk, hkl⟩ => ⟨k, hk, by rw [getD_set_ne' (fun (e : k = i) => hiW (e ▸ hk))]; exact hkl⟩) id⟩
  intro fuel
  induction fuel with
  | zero =>
    intro listed a w _ hr hy hS H
    refine ⟨fun h => (by rw [h] at hr; cases hr), fun j hj => ?_⟩
    by_cases hji : j = i
    · subst hji; exact hy.wpOp hi hS.1 ⟨hset _ _ hS, H⟩
    · have := ready_mono hj hji
      rw [H.1] at this
      cases this
  | succ fuel ih =>
    intro listed a w hfree hr hy hS H
    refine ⟨fun h => (by rw [h] at hr; cases hr), fun j hj => ?_⟩
    by_cases hji : j = i
    · subst hji; exact hy.wpOp hi hS.1 ⟨hset _ _ hS, H⟩
    · have h1 := H.2 j (ready_mono hj hji)
      obtain ⟨hjun, oj, hoj, hall⟩ := mem_ready.1 hj
      have hnot : ∀ e ∈ oj.after, Region.binds md e = true → e.on ≠ i := fun e he hb heq => by
        have h1 := hall e he hb
        have h0 := (mem_ready.1 hr).1
        rw [heq] at h1
        rcases Nat.lt_or_ge i listed.size with h' | h'
        · simp [h'] at h0 h1; rw [h0] at h1; cases h1
        · simp [Array.getElem?_eq_none h'] at h1
      have h2 := wpOp_putIf hoj (hfree j oj hoj hji hjun hnot) (fun cs b => hsel i oi cs b hi) (fun cs b => hsel j oj cs b hoj) hQ hy h1
      have hfree' : ∀ k ok, ops[k]? = some ok → k ≠ i → (listed.setIfInBounds j true).getD k true = false →
          (∀ e ∈ ok.after, Region.binds md e = true → e.on ≠ i) → oi.apart ops ok = true := fun k ok hk hki hun hno => by
        refine hfree k ok hk hki ?_ hno
        by_cases hjk : j = k
        · subst hjk; exact hjun
        · rw [getD_set_ne true hjk] at hun; exact hun
      refine wpOp_mono (fun a' w' h3 => ?_) h2
      have hH : Hd w0 A Wr (listed.setIfInBounds j true) w' := by
        refine ⟨h3.2.1.1, ?_⟩
        rcases h3.2.1.2 with ⟨k, hk, hkl⟩ | hM
        · refine .inl ⟨k, hk, ?_⟩
          rw [Array.setIfInBounds_comm _ _ (Ne.symm hji), getD_set_ne' (fun (e : k = i) => hiW (e ▸ hk))] at hkl
          exact hkl
        · exact .inr hM
      refine ⟨hH, ih (listed.setIfInBounds j true) a' w' hfree' (ready_mono hr (Ne.symm hji)) h3.1 hH ?_⟩
      rw [Array.setIfInBounds_comm _ _ hji]
      exact h3.2.2
end

section
variable {P : Program} {n : Nat} {w0 : World} {ops : Array Oper} {Q : Po} {f : Fm} {L A : Own} {Wr : List Nat} {fuel : Nat} {listed : Array Bool}
/-- A region in whatever order: A: what all that only read may lean on till a writer (Wr) has come up. -/
def WD (P : Program) (n : Nat) (w0 : World) (ops : Array Oper) (Q : Po) (A : Own) (Wr : List Nat) (fuel : Nat) (listed : Array Bool) (f : Fm) (L : Own) : Prop :=
  ∀ ds a w, Fr ds n a f → Mem w0 w L → wpG P .any ops (QA n w0 ds Q) w0 A Wr fuel listed a w
/-- No way of the region ends in a panic that is told. -/
def NoPan (Q : Po) : Prop := ∀ c f L, ¬ Q (.panic c) f L
theorem d_begin {id : Nat} {l : List Oper} (A : Own) (Wr : List Nat) (hm : P.follows .mixedOrders = true) (h : WD P n w0 l.toArray Q A Wr l.length (Array.replicate l.length false) f L) : CW P n w0 (.region id l.toArray true) Q f L := by
  intro ds a w ha hM
  refine (wpIn_wide (n := 0)).2 (wp_region_any hm (wpAny_of_wpG (w0 := w0) (A := A) (Wr := Wr) _ _ _ _ ?_))
  have := h ds a { w with drawn := w.drawn + 1 } ha hM.drewN
  simpa using this
def barB (ops : Array Oper) (Wr : List Nat) (i : Nat) : Bool := Wr.all fun k => match ops[k]? with
  | some ok => ok.after.any fun e => Region.binds .any e && e.on == i
  | none => false
def offB (listed : Array Bool) (Wr : List Nat) : Bool := Wr.all fun k => !listed.getD k false
theorem barB_spec {i : Nat} (h : barB ops Wr i = true) : ∀ k ∈ Wr, ∃ ok, ops[k]? = some ok ∧ ∃ e ∈ ok.after, Region.binds .any e = true ∧ e.on = i := by
  intro k hk
  have := List.all_eq_true.1 h k hk
  split at this
  · rename_i ok ho
    obtain ⟨e, he, hb⟩ := Array.any_eq_true'.1 this
    simp only [Bool.and_eq_true, beq_iff_eq] at hb
    exact ⟨ok, ho, e, he, hb.1, hb.2⟩
  · cases this
theorem offB_spec (h : offB listed Wr = true) : ∀ k ∈ Wr, listed.getD k false = false := by
  intro k hk
  have := List.all_eq_true.1 h k hk
  simpa using this
/-- Operation i only reads: it is taken first. -/
theorem d_take (i : Nat) {o : Oper} {v : Value} (hQ : NoPan Q) (hi : ops[i]? = some o) (hs : Region.noSelect ops = true) (hf : Region.free .any ops listed i = true) (hr : (Region.ready .any ops listed).contains i = true) (hb : barB ops Wr i = true) (ho : offB listed Wr = true)
    (hA : A.Sublist L) (hw : Region.wanted o (yieldB f ops) = true) (h : EvIn P (fun w => Mem w0 w A) f o v) (k : WD P n w0 ops Q A Wr fuel (listed.setIfInBounds i true) (putf n f o.dst v) L) : WD P n w0 ops Q A Wr (fuel + 1) listed f L := by
  intro ds a w ha hM
  refine wpG_first hi (Region.noSelect_spec hs) (fun c a w ⟨f, L, h1, h2, h3⟩ => absurd h3 (hQ c f L)) (barB_spec hb) fuel listed a w (Region.free_spec hi hf) (offB_spec ho) (by simpa using hr) (.inl ⟨by rw [ha.yields]; exact hw, fun w hM => by rw [ha.eval_fun]; exact h w hM⟩) (hM.drop hA) (k _ _ w (ha.put _ _) hM)
theorem d_takeskip (i : Nat) {o : Oper} (hQ : NoPan Q) (hi : ops[i]? = some o) (hs : Region.noSelect ops = true) (hf : Region.free .any ops listed i = true) (hr : (Region.ready .any ops listed).contains i = true) (hb : barB ops Wr i = true) (ho : offB listed Wr = true)
    (hA : A.Sublist L) (hw : Region.wanted o (yieldB f ops) = false) (k : WD P n w0 ops Q A Wr fuel (listed.setIfInBounds i true) (putf n f o.dst undef) L) : WD P n w0 ops Q A Wr (fuel + 1) listed f L := by
  intro ds a w ha hM
  refine wpG_first hi (Region.noSelect_spec hs) (fun c a w ⟨f, L, h1, h2, h3⟩ => absurd h3 (hQ c f L)) (barB_spec hb) fuel listed a w (Region.free_spec hi hf) (offB_spec ho) (by simpa using hr) (.inr ⟨by rw [ha.yields]; exact hw, rfl⟩) (hM.drop hA) (k _ _ w (ha.put _ _) hM)
/-- Operation i leans on no block of the list: it is taken first. -/
theorem d_tk0 (i : Nat) {o : Oper} (hQ : NoPan Q) (hi : ops[i]? = some o) (hs : Region.noSelect ops = true) (hf : Region.free .any ops listed i = true) (hr : (Region.ready .any ops listed).contains i = true) (hiW : Wr.contains i = false)
    (hA : A.Sublist L ∨ offB listed Wr = false) (h : W P n w0 .take ops (fun e f' L' => e = .normal ∧ L' = [] ∧ WD P n w0 ops Q A Wr fuel (listed.setIfInBounds i true) f' L) [o] f []) : WD P n w0 ops Q A Wr (fuel + 1) listed f L := by
  have hd : ∀ w, Mem w0 w L → Hd w0 A Wr listed w := fun w hM => ⟨hM.drop (List.nil_sublist _), by
    rcases hA with h3 | h3
    · exact .inr (hM.drop h3)
    · refine .inl ?_
      simp only [offB] at h3
      obtain ⟨k, hk, hk2⟩ := List.all_eq_false.1 h3
      exact ⟨k, hk, by simpa using hk2⟩⟩
  rcases h with ⟨hw, v, h1, _, _, h2⟩ | ⟨hw, _, _, h2⟩
  · intro ds a w ha hM
    exact wpG_first0 hi (Region.noSelect_spec hs) (fun c a w ⟨f, L, h1, h2, h3⟩ => absurd h3 (hQ c f L)) (by simpa using hiW) fuel listed a w (Region.free_spec hi hf) (by simpa using hr) (.inl ⟨by rw [ha.yields]; exact hw, fun w hM => by rw [ha.eval_fun]; exact h1 w hM⟩) (hd w hM) (h2 _ _ w (ha.put _ _) hM)
  · intro ds a w ha hM
    exact wpG_first0 hi (Region.noSelect_spec hs) (fun c a w ⟨f, L, h1, h2, h3⟩ => absurd h3 (hQ c f L)) (by simpa using hiW) fuel listed a w (Region.free_spec hi hf) (by simpa using hr) (.inr ⟨by rw [ha.yields]; exact hw, rfl⟩) (hd w hM) (h2 _ _ w (ha.put _ _) hM)
/-- .. by the rules of the lists. -/
theorem d_tk (i : Nat) {o : Oper} (hQ : NoPan Q) (hi : ops[i]? = some o) (hs : Region.noSelect ops = true) (hf : Region.free .any ops listed i = true) (hr : (Region.ready .any ops listed).contains i = true) (hb : barB ops Wr i = true) (ho : offB listed Wr = true)
    (hA : A.Sublist L) (h : W P n w0 .take ops (fun e f' L' => e = .normal ∧ L' = A ∧ WD P n w0 ops Q A Wr fuel (listed.setIfInBounds i true) f' L) [o] f A) : WD P n w0 ops Q A Wr (fuel + 1) listed f L := by
  rcases h with ⟨hw, v, h1, _, _, h2⟩ | ⟨hw, _, _, h2⟩
  · exact d_take i hQ hi hs hf hr hb ho hA hw h1 h2
  · exact d_takeskip i hQ hi hs hf hr hb ho hA hw h2
/-- One operation that comes up, as the list-rules take it: it stands at the head of a list whose rest hands the frame on. -/
abbrev One (P : Program) (n : Nat) (w0 : World) (ops : Array Oper) (o : Oper) (f : Fm) (L : Own) (K : Fm → Own → Prop) : Prop := W P n w0 .lex ops (fun e f L => e = .normal ∧ K f L) [o] f L
theorem Oper.wp_mono2 {o : Oper} {a : Act} {w : World} {K K' : Act → World → Prop} {R R' : Exit → Act → World → Prop} (h : ∀ a w, K a w → K' a w) (hp : ∀ c a w, ¬ R (.panic c) a w) (ho : ¬ LetsOut R)
    (hh : o.wp P a w K R) : o.wp P a w K' R' := by
  unfold Oper.wp at *
  generalize (execOp a.eval o).run P w = r at *
  cases r with
  | ok n w' =>
    cases n <;> simp only [Oper.upon] at hh ⊢ <;>
      first
        | exact h _ _ hh
        | exact Calls.mono hh (fun e w'' he => by cases e <;> first | exact h _ _ he | exact absurd he (hp _ _ _) | exact absurd he ho)
        | exact Rows.mono hh (fun _ _ he => h _ _ he)
  | halt x w' => cases x <;> simp only [Oper.upon] at hh ⊢ <;> exact absurd hh (hp _ _ _)
theorem one_op {i : Nat} {o : Oper} (hi : ops[i]? = some o) (h : One P n w0 ops o f L (fun f' L' => (A.Sublist L' ∨ offB (listed.setIfInBounds i true) Wr = false) ∧ WD P n w0 ops Q A Wr fuel (listed.setIfInBounds i true) f' L')) :
    ∀ ds a w, Fr ds n a f → Mem w0 w L → wpOp P ops (QA n w0 ds Q) i (fun a' w' => Hd w0 A Wr (listed.setIfInBounds i true) w' ∧ wpG P .any ops (QA n w0 ds Q) w0 A Wr fuel (listed.setIfInBounds i true) a' w') a w := by
  intro ds a w ha hM
  have key : ∀ a' w', QA n w0 ds (fun e f' L' => e = .normal ∧ (A.Sublist L' ∨ offB (listed.setIfInBounds i true) Wr = false) ∧ WD P n w0 ops Q A Wr fuel (listed.setIfInBounds i true) f' L') .normal a' w' →
      Hd w0 A Wr (listed.setIfInBounds i true) w' ∧ wpG P .any ops (QA n w0 ds Q) w0 A Wr fuel (listed.setIfInBounds i true) a' w' := by
    rintro a' w' ⟨f', L', h1, h2, _, h3, h4⟩
    refine ⟨⟨h2.drop (List.nil_sublist _), ?_⟩, h4 ds a' w' h1 h2⟩
    rcases h3 with h3 | h3
    · exact .inr (h2.drop h3)
    · refine .inl ?_
      simp only [offB] at h3
      obtain ⟨k, hk, hk2⟩ := List.all_eq_false.1 h3
      exact ⟨k, hk, by simpa using hk2⟩
  have h1 := h.2 ds a w ha hM
  unfold wpOp
  simp only [hi]
  unfold wpList at h1
  have hno : ¬ LetsOut (QA n w0 ds (fun e f' L' => e = .normal ∧ (A.Sublist L' ∨ offB (listed.setIfInBounds i true) Wr = false) ∧ WD P n w0 ops Q A Wr fuel (listed.setIfInBounds i true) f' L')) := by
    rintro ⟨a, w, f, L, _, _, he, _⟩; cases he
  split at h1
  · rename_i hw
    rw [if_pos hw]
    rcases h1 with h1 | h1
    · exact .inl (Oper.wp_mono2 (fun a' w' h => key a' w' h) (fun c a w ⟨f, L, _, _, he, _⟩ => by cases he) hno h1)
    · exact absurd h1.2 hno
  · rename_i hw
    rw [if_neg hw]
    exact key _ _ h1
theorem d_one (i : Nat) {o : Oper} (hi : ops[i]? = some o) (hr : Region.ready .any ops listed = [i])
    (h : One P n w0 ops o f L (fun f' L' => (A.Sublist L' ∨ offB (listed.setIfInBounds i true) Wr = false) ∧ WD P n w0 ops Q A Wr fuel (listed.setIfInBounds i true) f' L')) : WD P n w0 ops Q A Wr (fuel + 1) listed f L := by
  intro ds a w ha hM
  refine ⟨fun h0 => (by rw [hr] at h0; cases h0), fun j hj => ?_⟩
  rw [hr] at hj
  have hj : j = i := by simpa using hj
  subst hj
  exact one_op hi h ds a w ha hM
theorem d_two (i j : Nat) {o o' : Oper} (hi : ops[i]? = some o) (hj : ops[j]? = some o') (hr : Region.ready .any ops listed = [i, j])
    (h1 : One P n w0 ops o f L (fun f' L' => (A.Sublist L' ∨ offB (listed.setIfInBounds i true) Wr = false) ∧ WD P n w0 ops Q A Wr fuel (listed.setIfInBounds i true) f' L'))
    (h2 : One P n w0 ops o' f L (fun f' L' => (A.Sublist L' ∨ offB (listed.setIfInBounds j true) Wr = false) ∧ WD P n w0 ops Q A Wr fuel (listed.setIfInBounds j true) f' L')) : WD P n w0 ops Q A Wr (fuel + 1) listed f L := by
  intro ds a w ha hM
  refine ⟨fun h0 => (by rw [hr] at h0; cases h0), fun k hk => ?_⟩
  rw [hr] at hk
  rcases (by simpa using hk : k = i ∨ k = j) with rfl | rfl
  · exact one_op hi h1 ds a w ha hM
  · exact one_op hj h2 ds a w ha hM
theorem d_begin_s {id : Nat} {l : List Oper} {A : Own} (hA : A.Sublist L) (Wr : List Nat) (hm : P.follows .mixedOrders = true) (h : WD P n w0 l.toArray Q A Wr l.length (Array.replicate l.length false) f L) : CW P n w0 (.region id l.toArray true) Q f L := d_begin A Wr hm h
theorem np_ret {rs : List ResultVar} {R : Value → Own → Prop} : NoPan (retQ P w0 rs R) := fun c f L h => h
theorem np_then {N : Fm → Own → Prop} (h : NoPan Q) : NoPan (thenQ N Q) := fun c f L hq => h c f L hq
theorem np_blk {id : Nat} (h : NoPan Q) : NoPan (blkQ id Q) := fun c f L hq => h c f L hq
theorem d_done (hr : Region.ready .any ops listed = []) (h : Q .normal f L) : WD P n w0 ops Q A Wr fuel listed f L := by
  intro ds a w ha hM
  cases fuel with
  | zero => exact ⟨hr, f, L, ha, hM, h⟩
  | succ fuel => exact ⟨fun _ => ⟨f, L, ha, hM, h⟩, by rw [hr]; simp⟩
end
end Go.Proofs.Ytnmhhelcaibdoaa.Sl
