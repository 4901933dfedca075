/- The plain law: places behind the steps. -/
import Derived.Test.YtnmhhelcaibdoaaPp
namespace Go.Proofs.Ytnmhhelcaibdoaa.Pl
open Go Go.RowKit Sl
set_option linter.unusedVariables false
set_option linter.unusedSimpArgs false
theorem lo_split {lo : List Lg} (h : 0 < lo.length) : ∃ lo' ph pg, lo = lo' ++ [⟨ph, pg⟩] := by
  have hn : lo ≠ [] := List.length_pos_iff.1 h
  refine ⟨lo.dropLast, (lo.getLast hn).ph, (lo.getLast hn).pg, ?_⟩
  exact (List.dropLast_concat_getLast hn).symm
theorem lwhr_addLast {lo : List Lg} {p q : Int} (h : p ≠ q) : lwhr (addLast lo q) p = lwhr lo p := by
  rcases Nat.eq_zero_or_pos lo.length with h0 | h0
  · rw [List.length_eq_zero_iff.1 h0]; rfl
  · obtain ⟨lo', ph, pg, rfl⟩ := lo_split h0
    rw [addLast_snoc, lwhr_app, lwhr_app]
    simp only [lwhr, ixOf_snoc h]
theorem lwhr_addLast_self {lo lo' : List Lg} {ph p : Int} {pg : List Int} (hlo : lo = lo' ++ [⟨ph, pg⟩]) (h : lwhr lo p = none) : lwhr (addLast lo p) p = some (ph, (pg.length : Int)) := by
  subst hlo
  rw [addLast_snoc, lwhr_app]
  have h1 := lwhr_none.1 h
  rw [lwhr_none.2 (fun l hl => h1 l (List.mem_append_left _ hl))]
  have h2 : p ∉ pg := h1 ⟨ph, pg⟩ (by simp)
  simp only [lwhr, ixOf_snoc_self h2]
  rw [if_pos (by omega)]
theorem whr_of_lwhr {t t' : Tb} {p : Int} (h : lwhr t.lo p = lwhr t'.lo p) (hb : bwhr t p = bwhr t' p) : whr t p = whr t' p := by
  unfold whr; rw [h, hb]
section
variable {t x : Tb} {k p a b : Int}
theorem whr_put_self (hm : May t) (h : put t k p = .inr (x, a, b)) : whr x p = some (a, b) := by
  unfold put at h
  rw [if_pos hm] at h
  by_cases hin : inB t p
  · rw [if_pos hin] at h
    unfold putA at h
    by_cases h1 : putSq t k p
    · rw [if_pos h1] at h
      injection h with h; injection h with e1 e2; injection e2 with e2 e3
      subst e1; subst e2; subst e3
      refine (whr_seq (t := { fgT t p with su := t.su + 1 }) (lwhr_fgt_self hin.1) ⟨h1.1.1.2, h1.1.2, ?_⟩).trans ?_
      · show p % t.P < t.su + 1
        have := h1.2; omega
      · show some (t.sp, p % t.P) = _
        rw [← h1.2]
    · rw [if_neg h1] at h
      by_cases h2 : k = 2 ∧ room t
      · rw [if_pos h2] at h
        injection h with h; injection h with e1 e2; injection e2 with e2 e3
        subst e1; subst e2; subst e3
        obtain ⟨lo', ph, pg, hlo⟩ := lo_split (lo := (fgT t p).lo) (by show 0 < (fgt _ t.lo).length; rw [fgt_len]; exact h2.2.1)
        refine (whr_log (lwhr_addLast_self hlo (lwhr_fgt_self hin.1))).trans ?_
        obtain ⟨e1, e2⟩ := last_fgt hlo
        rw [e1, e2]
      · rw [if_neg h2] at h; cases h
  · rw [if_neg hin] at h; cases h
theorem dm_eq {p q P : Int} (hP : 0 < P) (h1 : p / P = q / P) (h2 : p % P = q % P) : p = q := by
  have e1 := Int.mul_ediv_add_emod p P
  have e2 := Int.mul_ediv_add_emod q P
  rw [h1, h2] at e1
  omega
theorem whr_put_other (hm : May t) (h : put t k p = .inr (x, a, b)) {q : Int} (h0 : 0 ≤ q) (hq : q ≠ p) : whr x q = whr t q := by
  unfold put at h
  rw [if_pos hm] at h
  have hP : 4 ≤ t.P := hm.1.1.1.1.1
  by_cases hin : inB t p
  · rw [if_pos hin] at h
    unfold putA at h
    by_cases h1 : putSq t k p
    · rw [if_pos h1] at h
      injection h with h; injection h with e1 e2
      subst e1
      refine whr_of_lwhr (lwhr_fgt h0 hq) ?_
      unfold bwhr
      show (if 0 ≤ t.sp ∧ t.sl = q / t.P ∧ q % t.P < t.su + 1 then _ else _) = _
      have hiff : (0 ≤ t.sp ∧ t.sl = q / t.P ∧ q % t.P < t.su + 1) ↔ (0 ≤ t.sp ∧ t.sl = q / t.P ∧ q % t.P < t.su) := by
        constructor
        · rintro ⟨g1, g2, g3⟩
          refine ⟨g1, g2, ?_⟩
          have hne : q % t.P ≠ p % t.P := fun e => hq (dm_eq (by omega) (g2.symm.trans h1.1.2) e)
          have := h1.2; omega
        · rintro ⟨g1, g2, g3⟩; exact ⟨g1, g2, by omega⟩
      by_cases hc : 0 ≤ t.sp ∧ t.sl = q / t.P ∧ q % t.P < t.su
      · rw [if_pos (hiff.2 hc), if_pos hc]; rfl
      · rw [if_neg (mt hiff.1 hc), if_neg hc]; rfl
    · rw [if_neg h1] at h
      by_cases h2 : k = 2 ∧ room t
      · rw [if_pos h2] at h
        injection h with h; injection h with e1 e2
        subst e1
        exact whr_of_lwhr ((lwhr_addLast hq).trans (lwhr_fgt h0 hq)) rfl
      · rw [if_neg h2] at h; cases h
  · rw [if_neg hin] at h; cases h
theorem whr_skip (h : skip t k = .inr x) {q : Int} (h0 : 0 ≤ q) : whr x q = whr t q := by
  unfold skip at h
  by_cases hm : May t
  · rw [if_pos hm] at h
    by_cases h1 : k = 2 ∧ room t
    · rw [if_pos h1] at h
      injection h with h; subst h
      exact whr_of_lwhr (lwhr_addLast (by omega)) rfl
    · rw [if_neg h1] at h; cases h
  · rw [if_neg hm] at h; cases h
theorem whr_open {y : Int} (h : opn t k b y = .inr x) {q : Int} (h0 : 0 ≤ q) : whr x q = whr t q := by
  unfold opn at h
  by_cases hm : May t
  · rw [if_pos hm] at h
    have hP : 4 ≤ t.P := hm.1.1.1.1.1
    by_cases hf : frsh t y
    · rw [if_pos hf] at h
      unfold opnA at h
      by_cases h1 : opnSq t k b
      · rw [if_pos h1] at h
        injection h with h; subst h
        refine whr_of_lwhr rfl ?_
        unfold bwhr
        have hq : 0 ≤ q % t.P := Int.emod_nonneg _ (by omega)
        rw [if_neg (show ¬ (0 ≤ t.sp ∧ t.sl = q / t.P ∧ q % t.P < t.su) from fun g => by have := h1.1.2; omega)]
        rw [if_neg (show ¬ (0 ≤ y ∧ b = q / t.P ∧ q % t.P < 0) from fun g => by omega)]
      · rw [if_neg h1] at h
        by_cases h2 : opnRd t k
        · rw [if_pos h2] at h
          injection h with h; subst h
          refine whr_of_lwhr ?_ rfl
          show lwhr (t.lo ++ [⟨y, []⟩]) q = _
          rw [lwhr_app]
          cases lwhr t.lo q with
          | none => simp [lwhr, ixOf]
          | some z => rfl
        · rw [if_neg h2] at h; cases h
    · rw [if_neg hf] at h; cases h
  · rw [if_neg hm] at h; cases h
theorem whr_drop {y : Int} (h : drop1 t = .inr (x, y)) {q : Int} (h0 : 0 ≤ q) : whr x q = whr t q := by
  unfold drop1 at h
  by_cases hm : May t
  · rw [if_pos hm] at h
    by_cases h1 : noDrop t
    · rw [if_pos h1] at h; cases h
    · rw [if_neg h1] at h
      injection h with h; injection h with e1 e2; subst e1
      refine whr_of_lwhr ?_ rfl
      show lwhr t.lo.tail q = _
      unfold noDrop hdPg at h1
      cases hl : t.lo with
      | nil => rfl
      | cons l r =>
        rw [hl] at h1
        have h2 : l.pg.any isN ≠ true := fun e => h1 (.inr e)
        rw [List.tail_cons, lwhr.eq_2, if_neg]
        rw [ixOf_mem]
        intro hq
        exact h2 (List.any_eq_true.2 ⟨q, hq, by simpa [isN] using h0⟩)
  · rw [if_neg hm] at h; cases h
end
end Go.Proofs.Ytnmhhelcaibdoaa.Pl
