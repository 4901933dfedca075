/- The plain law of PlanNewest: where pages stand behind Put, Open, Skip, Dropped. -/
import Derived.Test.YtnmhhelcaibdoaaPo
namespace Go.Proofs.Ytnmhhelcaibdoaa.Pl
open Go Go.RowKit Sl
set_option linter.unusedVariables false
set_option linter.unusedSimpArgs false
theorem ixOf_mem {l : List Int} {p : Int} : 0 ≤ ixOf l p ↔ p ∈ l := by
  unfold ixOf; split <;> simp_all
theorem lwhr_none {lo : List Lg} {p : Int} : lwhr lo p = none ↔ ∀ l ∈ lo, p ∉ l.pg := by
  induction lo with
  | nil => simp [lwhr]
  | cons a r ih =>
    unfold lwhr
    by_cases h : 0 ≤ ixOf a.pg p
    · rw [if_pos h]; simp [ixOf_mem.1 h]
    · rw [if_neg h, ih]
      have := mt ixOf_mem.2 h
      simp [this]
theorem lwhr_app {a b : List Lg} {p : Int} : lwhr (a ++ b) p = match lwhr a p with | some x => some x | none => lwhr b p := by
  induction a with
  | nil => rfl
  | cons l r ih =>
    rw [List.cons_append, lwhr.eq_2, lwhr.eq_2]
    by_cases h : 0 ≤ ixOf l.pg p
    · rw [if_pos h, if_pos h]
    · rw [if_neg h, if_neg h]; exact ih
/-- Forgetting one page leaves the others' places. -/
theorem ixOf_map {f : Int → Int} {l : List Int} {p : Int} (h : ∀ x ∈ l, f x = p ↔ x = p) : ixOf (l.map f) p = ixOf l p := by
  induction l with
  | nil => rfl
  | cons a r ih =>
    have ih := ih fun x hx => h x (List.mem_cons_of_mem _ hx)
    have ha := h a List.mem_cons_self
    unfold ixOf at ih ⊢
    simp only [List.map_cons, List.mem_cons, List.idxOf_cons]
    by_cases hp : a = p
    · subst hp
      simp [ha.2 rfl]
    · have hfp : f a ≠ p := fun e => hp (ha.1 e)
      have hm : p ∈ r.map f ↔ p ∈ r := by
        simp only [List.mem_map]
        exact ⟨fun ⟨x, hx, e⟩ => by rw [(h x (List.mem_cons_of_mem _ hx)).1 e] at hx; exact hx, fun hx => ⟨p, hx, (h p (List.mem_cons_of_mem _ hx)).2 rfl⟩⟩
      have e1 : (f a == p) = false := by simpa using hfp
      have e2 : (a == p) = false := by simpa using hp
      simp only [e1, e2, cond_false, Ne.symm hp, Ne.symm hfp, false_or, hm] at ih ⊢
      by_cases hr : p ∈ r
      · simp only [hr, if_true] at ih ⊢; omega
      · simp only [hr, if_false]
theorem fq_iff {n p x : Int} (h0 : 0 ≤ p) (h : p ≠ n) : fq (isP n) x = p ↔ x = p := by
  unfold fq isP
  by_cases hx : 0 ≤ x ∧ decide (x = n) = true
  · rw [if_pos hx]
    have : x = n := by simpa using hx.2
    omega
  · rw [if_neg hx]
theorem fq_self {n x : Int} (h0 : 0 ≤ n) : fq (isP n) x ≠ n := by
  unfold fq isP
  by_cases hx : 0 ≤ x ∧ decide (x = n) = true
  · rw [if_pos hx]; omega
  · rw [if_neg hx]
    intro e; subst e; exact hx ⟨h0, by simp⟩
theorem lwhr_fgt {lo : List Lg} {n p : Int} (h0 : 0 ≤ p) (h : p ≠ n) : lwhr (fgt (isP n) lo) p = lwhr lo p := by
  induction lo with
  | nil => rfl
  | cons l r ih =>
    show lwhr (⟨l.ph, l.pg.map (fq (isP n))⟩ :: fgt (isP n) r) p = _
    rw [lwhr.eq_2, lwhr.eq_2, ixOf_map (fun x _ => fq_iff h0 h), ih]
theorem lwhr_fgt_self {lo : List Lg} {n : Int} (h0 : 0 ≤ n) : lwhr (fgt (isP n) lo) n = none := by
  rw [lwhr_none]
  intro l hl
  simp only [fgt, List.mem_map] at hl
  obtain ⟨l', _, rfl⟩ := hl
  simp only [List.mem_map, not_exists, not_and]
  exact fun x _ => fq_self h0
theorem ixOf_snoc {l : List Int} {p q : Int} (h : p ≠ q) : ixOf (l ++ [q]) p = ixOf l p := by
  unfold ixOf
  simp only [List.mem_append, List.mem_singleton, h, or_false]
  by_cases hm : p ∈ l
  · rw [if_pos hm, if_pos hm, List.idxOf_append, if_pos hm]
  · rw [if_neg hm, if_neg hm]
theorem ixOf_snoc_self {l : List Int} {p : Int} (h : p ∉ l) : ixOf (l ++ [p]) p = l.length := by
  unfold ixOf
  rw [if_pos (by simp), List.idxOf_append, if_neg h]
  simp
end Go.Proofs.Ytnmhhelcaibdoaa.Pl
