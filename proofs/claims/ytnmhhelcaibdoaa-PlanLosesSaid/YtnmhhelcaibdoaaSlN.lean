/- Maps keyed by a struct of two whole numbers: the operations. -/
import Derived.Test.YtnmhhelcaibdoaaSlM
import Derived.Test.YtnmhhelcaibdoaaSlW
namespace Go.Proofs.Ytnmhhelcaibdoaa.Sl
open Go Go.RowKit
set_option linter.unusedVariables false
set_option linter.unusedSimpArgs false
theorem equal_kv {P : Program} {K : Nat} [h : CSE P K 2] {w : World} {a b : Int × Int} : (Op.equal K (kv a) (kv b)).run P w = .ok (decide (a = b)) w := by
  have := (CSE.run h (w := w) (x := .tmp 0) (y := .tmp 0) (xs := [a.1, a.2]) (ys := [b.1, b.2]) rfl rfl).1
  have e : decide ([a.1, a.2] = [b.1, b.2]) = decide (a = b) := by
    refine decide_eq_decide.2 ⟨fun h => ?_, fun h => by rw [h]⟩
    simp at h
    exact Prod.ext h.1 h.2
  rw [e] at this
  exact this
theorem findAsking_kv {P : Program} {K : Nat} [CSE P K 2] {w : World} {a : Int × Int} : ∀ (es : List MapEntry) (i : Nat), (∀ e ∈ es, ∃ k, e.key = kv k) →
    ((Instr.findAsking K (kv a) es i).run P w = .ok none w ∧ ∀ e ∈ es, e.key ≠ kv a) ∨ ∃ j e, (Instr.findAsking K (kv a) es i).run P w = .ok (some (i + j, e.val)) w ∧ es[j]? = some e ∧ e.key = kv a
  | [], i, _ => .inl ⟨by simp [Instr.findAsking], by simp⟩
  | e :: es, i, hk => by
    obtain ⟨b, hb⟩ := hk e (by simp)
    by_cases hab : a = b
    · right
      refine ⟨0, e, ?_, rfl, by rw [hb, hab]⟩
      simp only [Instr.findAsking, hb, Sem.run_bind, equal_kv, Result.andThen_ok, hab, decide_true, if_true, Sem.run_pure, Nat.add_zero]
    · have hne : e.key ≠ kv a := fun h => hab (kv_inj (h.symm.trans hb))
      rcases findAsking_kv (P := P) (K := K) (w := w) (a := a) es (i + 1) (fun e' he => hk e' (by simp [he])) with ⟨h1, h2⟩ | ⟨j, e', h1, h2, h3⟩
      · left
        refine ⟨?_, fun x hx => ?_⟩
        · simp only [Instr.findAsking, hb, Sem.run_bind, equal_kv, Result.andThen_ok, hab, decide_false, Bool.false_eq_true, if_false, h1]
        · rcases List.mem_cons.1 hx with rfl | hx
          · exact hne
          · exact h2 x hx
      · right
        refine ⟨j + 1, e', ?_, by simpa using h2, h3⟩
        simp only [Instr.findAsking, hb, Sem.run_bind, equal_kv, Result.andThen_ok, hab, decide_false, Bool.false_eq_true, if_false, h1]
        rw [show i + 1 + j = i + (j + 1) by omega]
theorem findKey_kv {P : Program} {K : Nat} [CSE P K 2] {w : World} {fs : Array Field} (hu : P.underlying K = some (.struct fs)) {a : Int × Int} {es : List MapEntry} (hk : ∀ e ∈ es, ∃ k, e.key = kv k) :
    ((Instr.findKey K (kv a) es).run P w = .ok none w ∧ ∀ e ∈ es, e.key ≠ kv a) ∨ ∃ j e, (Instr.findKey K (kv a) es).run P w = .ok (some (j, e.val)) w ∧ es[j]? = some e ∧ e.key = kv a := by
  have hun : (underlying K).run P w = .ok (.struct fs) w := by simp [underlying, program, Sem.run, hu]
  cases es with
  | nil => exact .inl ⟨by simp [Instr.findKey, hun, Instr.findNow], by simp⟩
  | cons e es =>
    obtain ⟨b, hb⟩ := hk e (by simp)
    have hn : Instr.findNow (.struct fs) (kv a) (e :: es) 0 = none := by simp [Instr.findNow, hb, Instr.sameNow]
    have he : (Instr.findKey K (kv a) (e :: es)).run P w = (Instr.findAsking K (kv a) (e :: es) 0).run P w := by
      simp only [Instr.findKey, Sem.run_bind, hun, Result.andThen_ok, hn]
    rw [he]
    rcases findAsking_kv (P := P) (K := K) (w := w) (a := a) (e :: es) 0 hk with h | ⟨j, e', h1, h2⟩
    · exact .inl h
    · exact .inr ⟨j, e', by simpa using h1, h2⟩
theorem checkKey_kv {P : Program} {K : Nat} [h : CSE P K 2] {em : Bool} {w : World} {a : Int × Int} : (Instr.checkKey em 10000 K (kv a)).run P w = .ok () w := by
  have h := h.out
  simp only [SEb, Bool.and_eq_true, Bool.not_eq_true'] at h
  obtain ⟨⟨h1, h2⟩, h3⟩ := h
  split at h1 <;> try (cases h1; done)
  rename_i fs hu
  simp only [Bool.and_eq_true] at h1
  have hm := Nat.eq_of_beq_eq_true h1.2
  have hun : (underlying K).run P w = .ok (.struct fs) w := by simp [underlying, program, Sem.run, hu]
  have key : ∀ (m : Nat) (l : List Field) (i : Nat), intF P l i = true → i + l.length = 2 → (forIn l PUnit.unit (fun f _ => do
      if f.name ≠ "_" then Instr.checkKey em (m + 1) f.type (← part f.type #[.int .i64 a.1, .int .i64 a.2] f.offset)
      pure (ForInStep.yield PUnit.unit) : Field → PUnit → Sem (ForInStep PUnit))).run P w = .ok PUnit.unit w := by
    intro m l
    induction l with
    | nil => intro i _ _; simp
    | cons f l ih =>
      intro i hf hl
      simp only [intF, Bool.and_eq_true] at hf
      obtain ⟨⟨⟨ho, hn⟩, ht⟩, hr⟩ := hf
      have ho := Nat.eq_of_beq_eq_true ho
      have hn : f.name ≠ "_" := by simpa using hn
      split at ht <;> try (cases ht; done)
      rename_i k hk
      simp only [List.length_cons] at hl
      have hagg : (isAgg f.type).run P w = .ok false w := by simp [isAgg, underlying, program, Sem.run, hk]
      have hp : ∃ v, (part f.type #[.int .i64 a.1, .int .i64 a.2] f.offset).run P w = .ok (.int .i64 v) w := by
        simp only [part, Sem.run_bind, hagg, Result.andThen_ok, Bool.false_eq_true, if_false, ho]
        have : i = 0 ∨ i = 1 := by omega
        rcases this with rfl | rfl
        · exact ⟨a.1, by simp⟩
        · exact ⟨a.2, by simp⟩
      obtain ⟨v, hp⟩ := hp
      have hc : (Instr.checkKey em (m + 1) f.type (.int .i64 v)).run P w = .ok () w := by
        simp only [Instr.checkKey, Sem.run_bind, underlying, program, Sem.run, Result.andThen_ok, hk, Sem.run_pure]
      simp only [List.forIn_cons, Sem.run_bind, Sem.run_ite, hn, ne_eq, not_false_eq_true, if_true, hp, hc, Result.andThen_ok, Sem.run_pure]
      exact ih (i + 1) hr (by omega)
  have fin : ∀ m, (Instr.checkKey em (m + 1 + 1) K (kv a)).run P w = .ok () w := fun m => by
    unfold Instr.checkKey
    simp only [Sem.run_bind, hun, Result.andThen_ok]
    rw [← Array.forIn_toList]
    have := key m fs.toList 0 h1.1 (by simp; omega)
    first
      | exact this
      | (rw [this]; rfl)
  exact fin 9998
end Go.Proofs.Ytnmhhelcaibdoaa.Sl
