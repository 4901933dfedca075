/- What may be, may be behind each step that is no merge. -/
import Derived.Test.YtnmhhelcaibdoaaPq
namespace Go.Proofs.Ytnmhhelcaibdoaa.Pl
open Go Go.RowKit Sl
set_option linter.unusedVariables false
set_option linter.unusedSimpArgs false
theorem nn_map_fq {φ : Int → Bool} {l : List Int} : nn (l.map (fq φ)) = (nn l).filter fun p => !φ p := by
  induction l with
  | nil => rfl
  | cons a r ih =>
    unfold nn at ih ⊢
    rw [List.map_cons, List.filter_cons, List.filter_cons]
    unfold fq at ih ⊢
    by_cases h0 : 0 ≤ a
    · by_cases h1 : φ a = true
      · simp only [h0, h1, and_self, if_true, decide_true, List.filter_cons, Bool.not_true, Bool.false_eq_true, if_false, show decide ((0 : Int) ≤ -1) = false from rfl]; exact ih
      · simp only [h0, h1, and_false, if_false, decide_true, if_true, List.filter_cons, Bool.not_eq_true, Bool.false_eq_true, show (!φ a) = true by simpa using h1]; rw [ih]; rfl
    · simp only [h0, false_and, if_false, decide_false, Bool.false_eq_true]; exact ih
theorem nn_fgt {φ : Int → Bool} {lo : List Lg} : nn ((fgt φ lo).flatMap Lg.pg) = (nn (lo.flatMap Lg.pg)).filter fun p => !φ p := by
  induction lo with
  | nil => rfl
  | cons l r ih =>
    show nn ((⟨l.ph, l.pg.map (fq φ)⟩ :: fgt φ r).flatMap Lg.pg) = _
    rw [List.flatMap_cons, List.flatMap_cons, nn_app, nn_app, List.filter_append, ih]
    show nn (l.pg.map (fq φ)) ++ _ = _
    rw [nn_map_fq]
theorem fgt_ph {φ : Int → Bool} {lo : List Lg} : (fgt φ lo).map Lg.ph = lo.map Lg.ph := by simp [fgt, Function.comp_def]
theorem fgt_get {φ : Int → Bool} {lo : List Lg} {i : Nat} {l : Lg} (h : (fgt φ lo)[i]? = some l) : ∃ l0, lo[i]? = some l0 ∧ l = ⟨l0.ph, l0.pg.map (fq φ)⟩ := by
  unfold fgt at h
  rw [List.getElem?_map] at h
  cases hl : lo[i]? with
  | none => rw [hl] at h; cases h
  | some l0 => rw [hl] at h; exact ⟨l0, rfl, by injection h with h; exact h.symm⟩
theorem fq_or {φ : Int → Bool} {p : Int} : fq φ p = -1 ∨ fq φ p = p := by unfold fq; split <;> simp
theorem may_fgt {t : Tb} {φ : Int → Bool} (h : May t) : May { t with lo := fgt φ t.lo } := by
  obtain ⟨⟨⟨a1, a2, a3, a4⟩, b, c⟩, d, e, f, g⟩ := h
  refine ⟨⟨⟨a1, a2, a3, by show ((fgt φ t.lo).length : Int) ≤ _; rw [fgt_len]; exact a4⟩, fun i l hl => ?_, c⟩, d, by show (nn (t.sp :: t.da ++ (fgt φ t.lo).map Lg.ph)).Nodup; rw [fgt_ph]; exact e, by show (nn ((fgt φ t.lo).flatMap Lg.pg)).Nodup; rw [nn_fgt]; exact f.filter _, g⟩
  obtain ⟨l0, h0, rfl⟩ := fgt_get hl
  obtain ⟨⟨b1, b2⟩, b3, b4⟩ := b i l0 h0
  refine ⟨⟨by simpa using b1, fun hi => ?_⟩, b3, fun p hp => ?_⟩
  · have hi : i + 1 < (fgt φ t.lo).length := hi
    rw [fgt_len] at hi
    simpa using b2 hi
  · obtain ⟨p0, hp0, rfl⟩ := List.mem_map.1 hp
    have := b4 p0 hp0
    have hG := gp_le a1
    rcases fq_or (φ := φ) (p := p0) with e | e <;> rw [e]
    · exact ⟨by omega, by show -1 ≤ t.G * t.P - 1; omega⟩
    · exact this
theorem may_add {t : Tb} {p : Int} (h : May t) (hr : room t) (h0 : -1 ≤ p) (h1 : p ≤ t.G * t.P - 1) (h2 : ¬ (0 ≤ p ∧ p ∈ nn (t.lo.flatMap Lg.pg))) : May { t with lo := addLast t.lo p } := by
  obtain ⟨lo', ph, pg, hlo⟩ := lo_split hr.1
  have hN : lastN t = pg.length := by
    rw [lastN_of hr.1]
    have : t.lo[t.lo.length - 1]? = some ⟨ph, pg⟩ := by rw [hlo]; simp
    rw [getN (by have := hr.1; omega)] at this
    injection this with this; rw [this]
  have hal : addLast t.lo p = lo' ++ [⟨ph, pg ++ [p]⟩] := by rw [hlo, addLast_snoc]
  have hlen : (lo' ++ [(⟨ph, pg ++ [p]⟩ : Lg)]).length = t.lo.length := by rw [hlo]; simp
  obtain ⟨⟨⟨a1, a2, a3, a4⟩, b, c⟩, d, e, f, g⟩ := h
  refine ⟨⟨⟨a1, a2, a3, by show ((addLast t.lo p).length : Int) ≤ _; rw [hal, hlen]; exact a4⟩, fun i l hl => ?_, c⟩, d, ?_, ?_, g⟩
  · have hl : (addLast t.lo p)[i]? = some l := hl
    rw [hal] at hl
    have hgo : ∀ (l0 : Lg), t.lo[i]? = some l0 → LogOk t i l0 := b i
    by_cases hi : i < lo'.length
    · rw [List.getElem?_append_left hi] at hl
      obtain ⟨⟨b1, b2⟩, b3, b4⟩ := hgo l (by rw [hlo, List.getElem?_append_left hi]; exact hl)
      refine ⟨⟨b1, fun hi2 => b2 ?_⟩, b3, b4⟩
      have hi2 : i + 1 < (addLast t.lo p).length := hi2
      rw [hal, hlen] at hi2; exact hi2
    · rw [List.getElem?_append_right (by omega)] at hl
      have hi0 : i = lo'.length := by
        have := (List.getElem?_eq_some_iff.1 hl).1
        simp at this; omega
      subst hi0
      simp at hl
      subst hl
      obtain ⟨⟨b1, b2⟩, b3, b4⟩ := hgo ⟨ph, pg⟩ (by rw [hlo]; simp)
      refine ⟨⟨?_, fun hi2 => ?_⟩, b3, fun q hq => ?_⟩
      · have := hr.2; rw [hN] at this
        simp only [List.length_append, List.length_singleton]
        show ((pg.length + 1 : Nat) : Int) ≤ t.P
        omega
      · have hi2 : lo'.length + 1 < (addLast t.lo p).length := hi2
        rw [hal] at hi2; simp at hi2
      · rcases List.mem_append.1 hq with hq | hq
        · exact b4 q hq
        · rw [List.mem_singleton.1 hq]; exact ⟨h0, h1⟩
  · show (nn (t.sp :: t.da ++ (addLast t.lo p).map Lg.ph)).Nodup
    have : (addLast t.lo p).map Lg.ph = t.lo.map Lg.ph := by rw [hal, hlo]; simp
    rw [this]; exact e
  · show (nn ((addLast t.lo p).flatMap Lg.pg)).Nodup
    have : (addLast t.lo p).flatMap Lg.pg = t.lo.flatMap Lg.pg ++ [p] := by rw [hal, hlo]; simp
    rw [this, nodup_step]
    exact ⟨f, h2⟩
theorem room_iff_fgt {φ : Int → Bool} {t : Tb} : room { t with lo := fgt φ t.lo } ↔ room t := room_fgt
theorem may_put {t x : Tb} {k p a b : Int} (h : put t k p = .inr (x, a, b)) : May x := by
  unfold put at h
  by_cases hm : May t
  · rw [if_pos hm] at h
    have hh := hm.1.1.2.2.1
    have hP : 4 ≤ t.P := hm.1.1.1.1.1
    by_cases hin : inB t p
    · rw [if_pos hin] at h
      unfold putA at h
      by_cases h1 : putSq t k p
      · rw [if_pos h1] at h
        injection h with h; injection h with e1 e2; subst e1
        obtain ⟨⟨a1, b1, c1⟩, d1⟩ := may_fgt (φ := isP p) hm
        have hmod := Int.emod_lt_of_pos p (show 0 < t.P by omega)
        refine ⟨⟨a1, b1, .inr ?_⟩, d1⟩
        have c2 : SeqOk t := hm.1.2.2
        have := h1.1.1.2
        have := h1.2
        rcases c2 with c2 | c2
        · omega
        · exact ⟨c2.1, c2.2.1, by show 0 ≤ t.su + 1; omega, by show t.su + 1 ≤ t.P; omega⟩
      · rw [if_neg h1] at h
        by_cases h2 : k = 2 ∧ room t
        · rw [if_pos h2] at h
          injection h with h; injection h with e1 e2; subst e1
          refine may_add (may_fgt (φ := isP p) hm) (room_fgt.2 h2.2) (by omega) (by show p ≤ t.G * t.P - 1; omega) ?_
          rintro ⟨_, hp⟩
          have hp : p ∈ nn ((fgt (isP p) t.lo).flatMap Lg.pg) := hp
          rw [nn_fgt] at hp
          simp [isP] at hp
        · rw [if_neg h2] at h; cases h
    · rw [if_neg hin] at h; cases h
  · rw [if_neg hm] at h; cases h
theorem may_skip {t x : Tb} {k : Int} (h : skip t k = .inr x) : May x := by
  unfold skip at h
  by_cases hm : May t
  · rw [if_pos hm] at h
    have hGP := gp_le hm.1.1.1
    by_cases h1 : k = 2 ∧ room t
    · rw [if_pos h1] at h
      injection h with h; subst h
      exact may_add hm h1.2 (by omega) (by omega) (fun g => by omega)
    · rw [if_neg h1] at h; cases h
  · rw [if_neg hm] at h; cases h
theorem nn_cons {a : Int} {l : List Int} : nn (a :: l) = if 0 ≤ a then a :: nn l else nn l := by
  unfold nn; rw [List.filter_cons]; simp
theorem may_open {t x : Tb} {k b y : Int} (h : opn t k b y = .inr x) : May x := by
  unfold opn at h
  by_cases hm : May t
  · rw [if_pos hm] at h
    by_cases hf : frsh t y
    · rw [if_pos hf] at h
      unfold opnA at h
      obtain ⟨⟨a1, b1, c1⟩, d1, e1, f1, g1⟩ := id hm
      by_cases h1 : opnSq t k b
      · rw [if_pos h1] at h
        injection h with h; subst h
        refine ⟨⟨a1, b1, .inr ⟨hf.1, ⟨h1.2.1, h1.2.2⟩, Int.le_refl _, by show (0 : Int) ≤ t.P; have := a1.1.1.1; omega⟩⟩, d1, ?_, f1, g1⟩
        show (nn (y :: t.da ++ t.lo.map Lg.ph)).Nodup
        rw [List.cons_append, nn_cons, if_neg (show ¬ 0 ≤ t.sp by have := h1.1.2; omega)] at e1
        rw [List.cons_append, nn_cons, if_pos hf.1.1, List.nodup_cons]
        refine ⟨fun hy => hf.2 ?_, e1⟩
        unfold usedL
        rw [nn_app] at hy
        rcases List.mem_append.1 hy with hy | hy
        · exact List.mem_append_left _ (by rw [nn_cons, if_neg (show ¬ 0 ≤ t.sp by have := h1.1.2; omega)]; exact hy)
        · exact List.mem_append_right _ (mem_nn.1 hy).1
      · rw [if_neg h1] at h
        by_cases h2 : opnRd t k
        · rw [if_pos h2] at h
          injection h with h; subst h
          refine ⟨⟨⟨a1.1, a1.2.1, a1.2.2.1, by show ((t.lo ++ [(⟨y, []⟩ : Lg)]).length : Int) ≤ t.K; have := h2.1.2; simp; omega⟩, fun i l hl => ?_, c1⟩, d1, ?_, ?_, g1⟩
          · have hl : (t.lo ++ [(⟨y, []⟩ : Lg)])[i]? = some l := hl
            by_cases hi : i < t.lo.length
            · rw [List.getElem?_append_left hi] at hl
              obtain ⟨⟨b2, b3⟩, b4⟩ := b1 i l hl
              refine ⟨⟨b2, fun hi2 => ?_⟩, b4⟩
              by_cases hi3 : i + 1 < t.lo.length
              · exact b3 hi3
              · have hl0 : t.lo.length - 1 = i := by omega
                have h3 := h2.2
                unfold room at h3
                rw [lastN_of (by omega)] at h3
                have hl2 : t.lo[t.lo.length - 1]'(by omega) = l := by
                  have := (List.getElem?_eq_some_iff.1 hl).2
                  simp only [hl0]; exact this
                rw [hl2] at h3
                have b2' : (l.pg.length : Int) ≤ t.P := b2
                show (l.pg.length : Int) = t.P
                omega
            · rw [List.getElem?_append_right (by omega)] at hl
              have hi0 : i = t.lo.length := by
                have := (List.getElem?_eq_some_iff.1 hl).1
                simp at this; omega
              subst hi0
              simp at hl
              subst hl
              have hP := a1.1.1.1
              exact ⟨⟨by show ((0 : Nat) : Int) ≤ t.P; omega, fun hi2 => by have hi2 : t.lo.length + 1 < (t.lo ++ [(⟨y, []⟩ : Lg)]).length := hi2; simp at hi2⟩, hf.1, fun p hp => by cases hp⟩
          · show (nn (t.sp :: t.da ++ (t.lo ++ [(⟨y, []⟩ : Lg)]).map Lg.ph)).Nodup
            rw [List.map_append, ← List.append_assoc]
            show (nn ((t.sp :: t.da ++ t.lo.map Lg.ph) ++ [y])).Nodup
            rw [nodup_step]
            refine ⟨e1, fun g => hf.2 ?_⟩
            unfold usedL
            have g2 := g.2
            rw [nn_app] at g2
            rcases List.mem_append.1 g2 with g2 | g2
            · exact List.mem_append_left _ g2
            · exact List.mem_append_right _ (mem_nn.1 g2).1
          · show (nn ((t.lo ++ [(⟨y, []⟩ : Lg)]).flatMap Lg.pg)).Nodup
            rw [List.flatMap_append]; simpa using f1
        · rw [if_neg h2] at h; cases h
    · rw [if_neg hf] at h; cases h
  · rw [if_neg hm] at h; cases h
theorem nn_sub {l l' : List Int} (h : l'.Sublist l) : (nn l').Sublist (nn l) := h.filter _
theorem flat_tail (lo : List Lg) : (lo.tail.flatMap Lg.pg).Sublist (lo.flatMap Lg.pg) := by
  cases lo with
  | nil => exact List.Sublist.refl _
  | cons l r => rw [List.tail_cons, List.flatMap_cons]; exact List.sublist_append_right _ _
theorem may_drop {t x : Tb} {y : Int} (h : drop1 t = .inr (x, y)) : May x := by
  unfold drop1 at h
  by_cases hm : May t
  · rw [if_pos hm] at h
    by_cases h1 : noDrop t
    · rw [if_pos h1] at h; cases h
    · rw [if_neg h1] at h
      injection h with h; injection h with e1 e2; subst e1
      obtain ⟨⟨a1, b1, c1⟩, d1, e1, f1, g1⟩ := id hm
      have hts : t.lo.tail.Sublist t.lo := List.tail_sublist _
      refine ⟨⟨⟨a1.1, a1.2.1, a1.2.2.1, by show (t.lo.tail.length : Int) ≤ t.K; have := a1.2.2.2; rw [List.length_tail]; omega⟩, fun i l hl => ?_, c1⟩, d1, (nn_sub ((List.Sublist.refl _).append (hts.map _))).nodup e1, (nn_sub (flat_tail _)).nodup f1, g1⟩
      have hl : t.lo.tail[i]? = some l := hl
      rw [List.getElem?_tail] at hl
      obtain ⟨⟨b2, b3⟩, b4⟩ := b1 (i + 1) l hl
      refine ⟨⟨b2, fun hi2 => b3 ?_⟩, b4⟩
      have hi2 : i + 1 < t.lo.tail.length := hi2
      rw [List.length_tail] at hi2; omega
  · rw [if_neg hm] at h; cases h
end Go.Proofs.Ytnmhhelcaibdoaa.Pl
