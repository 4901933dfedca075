/- What the steps' answers are in cells; the plain law of PlanNewest put together. -/
import Derived.Test.YtnmhhelcaibdoaaPr
namespace Go.Proofs.Ytnmhhelcaibdoaa.Pl
open Go Go.RowKit Sl
set_option linter.unusedVariables false
set_option linter.unusedSimpArgs false
theorem tabO_cells {S : Own} {tv : Value} {t : Tb} (h : TabO S tv t) : ∃ c0 c1 c2 c3 c4 c5 c6 c7 c8, tv = .agg #[c0, c1, c2, c3, c4, c5, c6, c7, c8] ∧ [c0, c1, c2, c3, c4, c5, c6, c7, c8].all Value.oneCell' = true := by
  obtain ⟨vd, vh, vl, rfl, hd, hh, hl⟩ := (h default S (List.Sublist.refl _)).ex
  obtain ⟨lv, hlv, _⟩ := hl.ex
  exact ⟨_, _, _, _, _, _, _, _, _, rfl, (by have h1 := hd.one; have h2 := hh.one; have h3 := hlv.one; simp only [List.all_cons, List.all_nil, h1, h2, h3]; rfl)⟩
theorem zT_one : zT.all Value.oneCell' = true := rfl
theorem PutR_form {x : Sum Int (Tb × Int × Int)} (hx : ∀ e, x = .inl e → e ≠ 0) {v : Value} {S : Own} (h : PutR x v S) : ∃ c0 c1 c2 c3 c4 c5 c6 c7 c8 a b e, v = .tuple #[.agg #[c0, c1, c2, c3, c4, c5, c6, c7, c8], .agg #[.int .i64 a, .int .i64 b], .int .i64 e] ∧ [c0, c1, c2, c3, c4, c5, c6, c7, c8].all Value.oneCell' = true ∧
    (e = 0 → ∃ t', x = .inr (t', a, b) ∧ TabO S (.agg #[c0, c1, c2, c3, c4, c5, c6, c7, c8]) t') ∧ (e ≠ 0 → x = .inl e) := by
  rcases x with e | ⟨t', a, b⟩
  · have h : v = _ := h
    exact ⟨_, _, _, _, _, _, _, _, _, 0, 0, e, h, rfl, fun h => absurd h (hx e rfl), fun _ => rfl⟩
  · obtain ⟨tv, rfl, hO⟩ := h
    obtain ⟨c0, c1, c2, c3, c4, c5, c6, c7, c8, rfl, h1⟩ := tabO_cells hO
    exact ⟨_, _, _, _, _, _, _, _, _, a, b, 0, rfl, h1, fun _ => ⟨t', rfl, hO⟩, fun h => absurd rfl h⟩
theorem OpR_form {x : Sum Int Tb} (hx : ∀ e, x = .inl e → e ≠ 0) {v : Value} {S : Own} (h : OpR x v S) : ∃ c0 c1 c2 c3 c4 c5 c6 c7 c8 e, v = .tuple #[.agg #[c0, c1, c2, c3, c4, c5, c6, c7, c8], .int .i64 e] ∧ [c0, c1, c2, c3, c4, c5, c6, c7, c8].all Value.oneCell' = true ∧
    (e = 0 → ∃ t', x = .inr t' ∧ TabO S (.agg #[c0, c1, c2, c3, c4, c5, c6, c7, c8]) t') ∧ (e ≠ 0 → x = .inl e) := by
  rcases x with e | t'
  · have h : v = _ := h
    exact ⟨_, _, _, _, _, _, _, _, _, e, h, rfl, fun h => absurd h (hx e rfl), fun _ => rfl⟩
  · obtain ⟨tv, rfl, hO⟩ := h
    obtain ⟨c0, c1, c2, c3, c4, c5, c6, c7, c8, rfl, h1⟩ := tabO_cells hO
    exact ⟨_, _, _, _, _, _, _, _, _, 0, rfl, h1, fun _ => ⟨t', rfl, hO⟩, fun h => absurd rfl h⟩
theorem DrR_form {x : Sum Int (Tb × Int)} (hx : ∀ e, x = .inl e → e ≠ 0) {v : Value} {S : Own} (h : DrR x v S) : ∃ c0 c1 c2 c3 c4 c5 c6 c7 c8 a e, v = .tuple #[.agg #[c0, c1, c2, c3, c4, c5, c6, c7, c8], .int .i64 a, .int .i64 e] ∧ [c0, c1, c2, c3, c4, c5, c6, c7, c8].all Value.oneCell' = true ∧
    (e = 0 → ∃ t', x = .inr (t', a) ∧ TabO S (.agg #[c0, c1, c2, c3, c4, c5, c6, c7, c8]) t') ∧ (e ≠ 0 → x = .inl e) := by
  rcases x with e | ⟨t', a⟩
  · have h : v = _ := h
    exact ⟨_, _, _, _, _, _, _, _, _, 0, e, h, rfl, fun h => absurd h (hx e rfl), fun _ => rfl⟩
  · obtain ⟨tv, rfl, hO⟩ := h
    obtain ⟨c0, c1, c2, c3, c4, c5, c6, c7, c8, rfl, h1⟩ := tabO_cells hO
    exact ⟨_, _, _, _, _, _, _, _, _, a, 0, rfl, h1, fun _ => ⟨t', rfl, hO⟩, fun h => absurd rfl h⟩
section
variable {t x : Tb} {k p a b y : Int}
theorem put_err : ∀ e, put t k p = .inl e → e ≠ 0 := by
  intro e h
  unfold put putA at h
  repeat' split at h
  all_goals first | (cases h; decide) | cases h
theorem skip_err : ∀ e, skip t k = .inl e → e ≠ 0 := by
  intro e h
  unfold skip at h
  repeat' split at h
  all_goals first | (cases h; decide) | cases h
theorem opn_err : ∀ e, opn t k b y = .inl e → e ≠ 0 := by
  intro e h
  unfold opn opnA at h
  repeat' split at h
  all_goals first | (cases h; decide) | cases h
theorem drop_err : ∀ e, drop1 t = .inl e → e ≠ 0 := by
  intro e h
  unfold drop1 at h
  repeat' split at h
  all_goals first | (cases h; decide) | cases h
theorem put_of (h : put t k p = .inr (x, a, b)) : May t ∧ inB t p ∧ x.ha = t.ha := by
  unfold put at h
  by_cases hm : May t
  · rw [if_pos hm] at h
    by_cases hi : inB t p
    · rw [if_pos hi] at h
      refine ⟨hm, hi, ?_⟩
      unfold putA at h
      repeat' split at h
      all_goals first | (cases h; rfl) | cases h
    · rw [if_neg hi] at h; cases h
  · rw [if_neg hm] at h; cases h
theorem skip_of (h : skip t k = .inr x) : May t ∧ x.ha = t.ha := by
  unfold skip at h
  by_cases hm : May t
  · rw [if_pos hm] at h
    refine ⟨hm, ?_⟩
    repeat' split at h
    all_goals first | (cases h; rfl) | cases h
  · rw [if_neg hm] at h; cases h
theorem open_of (h : opn t k b y = .inr x) : May t ∧ x.ha = t.ha := by
  unfold opn at h
  by_cases hm : May t
  · rw [if_pos hm] at h
    refine ⟨hm, ?_⟩
    unfold opnA at h
    repeat' split at h
    all_goals first | (cases h; rfl) | cases h
  · rw [if_neg hm] at h; cases h
theorem drop_of (h : drop1 t = .inr (x, y)) : May t ∧ x.ha = t.ha := by
  unfold drop1 at h
  by_cases hm : May t
  · rw [if_pos hm] at h
    refine ⟨hm, ?_⟩
    repeat' split at h
    all_goals first | (cases h; rfl) | cases h
  · rw [if_neg hm] at h; cases h
theorem oth_of (hm : May t) (hx : May x) (hh : x.ha = t.ha) (h : ∀ q : Int, 0 ≤ q → ¬ (a ≤ q ∧ q < b) → whr x q = whr t q) : Oth t x a b t.ha.length := fun q hq hn => by
  unfold whrM
  rw [mayT_of hm, mayT_of hx, hh]
  split
  · exact (h q (by omega) hn).symm
  · rfl
theorem oth_put (h : put t k p = .inr (x, a, b)) : Oth t x p (p + 1) t.ha.length :=
  oth_of (put_of h).1 (may_put h) (put_of h).2.2 fun q h0 hq => whr_put_other (put_of h).1 h h0 (by omega)
theorem oth_skip0 (h : skip t k = .inr x) : Oth t x 0 0 t.ha.length := oth_of (skip_of h).1 (may_skip h) (skip_of h).2 fun q h0 hq => whr_skip h h0
theorem oth_open0 (h : opn t k b y = .inr x) : Oth t x 0 0 t.ha.length := oth_of (open_of h).1 (may_open h) (open_of h).2 fun q h0 hq => whr_open h h0
theorem oth_drop0 (h : drop1 t = .inr (x, y)) : Oth t x 0 0 t.ha.length := oth_of (drop_of h).1 (may_drop h) (drop_of h).2 fun q h0 hq => whr_drop h h0
theorem whrM_put (h : put t k p = .inr (x, a, b)) : whrM x p = some (a, b) := by
  obtain ⟨hm, hi, hh⟩ := put_of h
  unfold whrM
  rw [mayT_of (may_put h), hh, if_pos hi]
  exact whr_put_self hm h
end
theorem ha_le {t : Tb} (h : May t) : (t.ha.length : Int) ≤ 8192 := by
  have h1 := h.1.1.2.2.1
  have h2 := gp_le h.1.1.1
  omega
section
variable {w0 : World} {L : Own}
theorem whr_known_g {v : Value} {x : Tb} {p a b : Int} (h : TabR w0 L v x) (hw : whrM x p = some (a, b)) : Gives Try.prog w0 L 27 [v, .int .i64 p] (fun v' L' => v' = .tuple #[.agg #[.int .i64 a, .int .i64 b], .bool true] ∧ L' = L) :=
  (Where_g h).mono fun v' L' ⟨h1, h2⟩ => ⟨h1.trans (by rw [hw]; rfl), h2⟩
theorem oth_known_g {v u : Value} {t t' : Tb} {a b : Int} (h : TabR w0 L v t) (h' : TabR w0 L u t') (ho : Oth t t' a b t.ha.length) : Gives Try.prog w0 L 28 [v, u, .int .i64 a, .int .i64 b] (fun v' L' => v' = .bool true ∧ L' = L) :=
  (others_g h h').mono fun v' L' ⟨h1, h2⟩ => ⟨h1.trans (by rw [decide_eq_true ho]), h2⟩
end
end Go.Proofs.Ytnmhhelcaibdoaa.Pl
