/- What a merge makes of a table: it may be; where the pages stand. -/
import Derived.Test.YtnmhhelcaibdoaaVd
namespace Go.Proofs.Ytnmhhelcaibdoaa.Pl
open Go Go.RowKit Sl
set_option linter.unusedVariables false
set_option linter.unusedSimpArgs false
theorem ovr_get {α : Type} {l xs : List α} {o i : Nat} (h : o + xs.length ≤ l.length) : (ovr l o xs)[i]? = if i < o then l[i]? else if i < o + xs.length then xs[i - o]? else l[i]? := by
  unfold ovr
  by_cases h1 : i < o
  · rw [if_pos h1, List.getElem?_append_left (by simp; omega), List.getElem?_take, if_pos h1]
  · rw [if_neg h1, List.getElem?_append_right (by simp; omega)]
    simp only [List.length_take]
    rw [Nat.min_eq_left (by omega)]
    by_cases h2 : i < o + xs.length
    · rw [if_pos h2, List.getElem?_append_left (by omega)]
    · rw [if_neg h2, List.getElem?_append_right (by omega), List.getElem?_drop]
      congr 1; omega
theorem split_at {l : List Int} {i : Nat} (h : i < l.length) : l = l.take i ++ l[i] :: l.drop (i + 1) := by
  rw [← List.drop_eq_getElem_cons h, List.take_append_drop]
theorem set_at {l : List Int} {i : Nat} {x : Int} (h : i < l.length) : l.set i x = l.take i ++ x :: l.drop (i + 1) := List.set_eq_take_append_cons_drop.trans (if_pos h)
theorem nn_perm {l l' : List Int} (h : l.Perm l') : (nn l).Perm (nn l') := h.filter _
theorem perm_x {s x : Int} {A C G : List Int} : (s :: (A ++ x :: C) ++ G).Perm (x :: (s :: (A ++ C) ++ G)) := by
  have h1 : (s :: (A ++ x :: C)).Perm (x :: s :: (A ++ C)) := ((List.perm_middle).cons s).trans (List.Perm.swap _ _ _)
  exact h1.append_right G
section
variable {t : Tb} {b ph : Int}
theorem may_set (hm : May t) (hb0 : 0 ≤ b) (hb1 : b ≤ t.G - 1) (h : frsh t ph ∨ (ph = t.sp ∧ b = t.sl ∧ 0 ≤ t.sp)) : May (setT t b ph) := by
  obtain ⟨hL, hd, hn, hp, hh⟩ := id hm
  obtain ⟨⟨a1, a2, a3, a4⟩, bb, c⟩ := id hL
  have hP := a1.1
  have hpin := pg_in hL hb0 hb1 (Int.le_refl 0) (show 0 < t.P by omega)
  have hend := pg_in hL hb0 hb1 (show 0 ≤ t.P - 1 by omega) (show t.P - 1 < t.P by omega)
  have hfl : (b * t.P).toNat + (hvF t b).length ≤ t.ha.length := by rw [hvF_len]; omega
  have hbl : b.toNat < t.da.length := by omega
  have hph : 0 ≤ ph ∧ ph ≤ 255 := by
    rcases h with h | ⟨rfl, _, h⟩
    · exact h.1
    · rcases c with c | c
      · omega
      · exact c.1
  obtain ⟨⟨_, mb, _⟩, _, _, mp, _⟩ := may_fgt (φ := inBk t.P b) hm
  refine ⟨⟨⟨a1, by show ((t.da.set b.toNat ph).length : Int) = t.G; rw [List.length_set]; exact a2, by show ((ovr t.ha (b * t.P).toNat (hvF t b)).length : Int) = _; rw [ovr_len hfl]; exact a3, by show ((fgt (inBk t.P b) t.lo).length : Int) ≤ t.K; rw [fgt_len]; exact a4⟩, mb, ?_⟩, ?_, ?_, mp, ?_⟩
  · show SeqOk (setT t b ph)
    unfold SeqOk
    by_cases hc : 0 ≤ t.sp ∧ t.sl = b
    · left; simp only [setT, if_pos hc]; decide
    · simp only [setT, if_neg hc]; exact c
  · intro d hd'
    rcases List.mem_or_eq_of_mem_set (show d ∈ t.da.set b.toNat ph from hd') with hd' | rfl
    · exact hd d hd'
    · omega
  · show (nn ((setT t b ph).sp :: t.da.set b.toNat ph ++ (fgt (inBk t.P b) t.lo).map Lg.ph)).Nodup
    rw [fgt_ph, set_at hbl]
    have h1 := hn
    rw [split_at hbl] at h1
    have h2 : (nn (t.da[b.toNat] :: (t.sp :: (t.da.take b.toNat ++ t.da.drop (b.toNat + 1)) ++ t.lo.map Lg.ph))).Nodup := (nn_perm perm_x).nodup_iff.1 h1
    have h3 : (nn (t.sp :: (t.da.take b.toNat ++ t.da.drop (b.toNat + 1)) ++ t.lo.map Lg.ph)).Nodup := by
      rw [nn_cons] at h2
      split at h2
      · exact (List.nodup_cons.1 h2).2
      · exact h2
    refine (nn_perm perm_x).nodup_iff.2 ?_
    by_cases hc : 0 ≤ t.sp ∧ t.sl = b
    · have e : (setT t b ph).sp = -1 := by simp only [setT, if_pos hc]
      rw [e, nn_cons, if_pos hph.1, List.cons_append, nn_cons, if_neg (by decide), List.nodup_cons]
      rw [List.cons_append, nn_cons, if_pos hc.1, List.nodup_cons] at h3
      refine ⟨?_, h3.2⟩
      rcases h with h | ⟨rfl, _, _⟩
      · intro hm2
        refine h.2 ?_
        have hm3 := (mem_nn.1 hm2).1
        unfold usedL
        rcases List.mem_append.1 hm3 with hm3 | hm3
        · refine List.mem_append_left _ (mem_nn.2 ⟨List.mem_cons_of_mem _ ?_, hph.1⟩)
          rw [split_at hbl]
          rcases List.mem_append.1 hm3 with hm3 | hm3
          · exact List.mem_append_left _ hm3
          · exact List.mem_append_right _ (List.mem_cons_of_mem _ hm3)
        · exact List.mem_append_right _ hm3
      · exact h3.1
    · have e : (setT t b ph).sp = t.sp := by simp only [setT, if_neg hc]
      rw [e, nn_cons, if_pos hph.1, List.nodup_cons]
      refine ⟨?_, h3⟩
      rcases h with h | ⟨_, rfl, h⟩
      · intro hm2
        refine h.2 ?_
        have hm3 := (mem_nn.1 hm2).1
        unfold usedL
        rw [List.cons_append] at hm3
        rcases List.mem_cons.1 hm3 with rfl | hm3
        · exact List.mem_append_left _ (mem_nn.2 ⟨List.mem_cons_self, hph.1⟩)
        rcases List.mem_append.1 hm3 with hm3 | hm3
        · refine List.mem_append_left _ (mem_nn.2 ⟨List.mem_cons_of_mem _ ?_, hph.1⟩)
          rw [split_at hbl]
          rcases List.mem_append.1 hm3 with hm3 | hm3
          · exact List.mem_append_left _ hm3
          · exact List.mem_append_right _ (List.mem_cons_of_mem _ hm3)
        · exact List.mem_append_right _ hm3
      · exact absurd ⟨h, rfl⟩ hc
  · intro i hi
    have hi : (ovr t.ha (b * t.P).toNat (hvF t b))[i]? = some true := hi
    rw [ovr_get hfl, hvF_len] at hi
    show ∃ d, (t.da.set b.toNat ph)[((i : Int) / t.P).toNat]? = some d ∧ 0 ≤ d
    have hPpos : 0 < t.P := by omega
    have hq0 : 0 ≤ (i : Int) / t.P := Int.ediv_nonneg (by omega) (by omega)
    have hdm := Int.mul_ediv_add_emod (i : Int) t.P
    have hm0 := Int.emod_nonneg (i : Int) (show t.P ≠ 0 by omega)
    have hm1 := Int.emod_lt_of_pos (i : Int) hPpos
    have hblk : (i : Int) / t.P = b ↔ (b * t.P ≤ i ∧ (i : Int) < b * t.P + t.P) := by
      constructor
      · intro e; rw [e, Int.mul_comm] at hdm; omega
      · rintro ⟨g1, g2⟩
        exact ((Int.ediv_emod_unique (r := (i : Int) - b * t.P) (q := b) hPpos).2 ⟨by rw [Int.mul_comm t.P b]; omega, by omega, by omega⟩).1
    by_cases hib : (i : Int) / t.P = b
    · refine ⟨ph, ?_, hph.1⟩
      rw [hib, List.getElem?_set_self hbl]
    · have hne : ((i : Int) / t.P).toNat ≠ b.toNat := fun e => hib (by omega)
      rw [List.getElem?_set_ne (Ne.symm hne)]
      have hnb := mt hblk.2 hib
      refine hh i ?_
      split at hi
      · exact hi
      · split at hi
        · omega
        · exact hi
theorem lwhr_fgt_no {φ : Int → Bool} {lo : List Lg} {p : Int} (h0 : 0 ≤ p) (h : φ p = true) : lwhr (fgt φ lo) p = none := by
  rw [lwhr_none]
  intro l hl
  simp only [fgt, List.mem_map] at hl
  obtain ⟨l', _, rfl⟩ := hl
  simp only [List.mem_map, not_exists, not_and]
  intro x _ e
  unfold fq at e
  split at e
  · omega
  · rename_i hx; subst e; exact hx ⟨h0, h⟩
theorem lwhr_fgt_same {φ : Int → Bool} {lo : List Lg} {p : Int} (h0 : 0 ≤ p) (h : φ p = false) : lwhr (fgt φ lo) p = lwhr lo p := by
  induction lo with
  | nil => rfl
  | cons l r ih =>
    show lwhr (⟨l.ph, l.pg.map (fq φ)⟩ :: fgt φ r) p = _
    rw [lwhr.eq_2, lwhr.eq_2, ixOf_map (fun x _ => ?_), ih]
    unfold fq
    split
    · rename_i hx
      constructor
      · intro e; omega
      · rintro rfl; rw [h] at hx; cases hx.2
    · exact Iff.rfl
theorem blk_div {P b o : Int} (h0 : 0 ≤ o) (h1 : o < P) : (b * P + o) / P = b ∧ (b * P + o) % P = o :=
  (Int.ediv_emod_unique (by omega)).2 ⟨by rw [Int.mul_comm P b]; omega, h0, h1⟩
theorem whr_set_in (hm : May t) (hb0 : 0 ≤ b) (hb1 : b ≤ t.G - 1) {o : Int} (ho0 : 0 ≤ o) (ho1 : o < t.P) : whr (setT t b ph) (b * t.P + o) = (whr t (b * t.P + o)).map fun _ => (ph, o) := by
  have hL := hm.1
  have hP := hL.1.1.1
  have hda := hL.1.2.1
  have hpin := pg_in hL hb0 hb1 ho0 ho1
  have hend := pg_in hL hb0 hb1 (show 0 ≤ t.P - 1 by omega) (show t.P - 1 < t.P by omega)
  have hpi0 := pg_in hL hb0 hb1 (Int.le_refl 0) (show 0 < t.P by omega)
  have hfl : (b * t.P).toNat + (hvF t b).length ≤ t.ha.length := by rw [hvF_len]; omega
  obtain ⟨e1, e2⟩ := blk_div (P := t.P) (b := b) ho0 ho1
  have hl : lwhr (setT t b ph).lo (b * t.P + o) = none := lwhr_fgt_no hpin.2.1 (by unfold inBk; rw [e1]; simp)
  have hs : ¬ (0 ≤ (setT t b ph).sp ∧ (setT t b ph).sl = (b * t.P + o) / (setT t b ph).P ∧ (b * t.P + o) % (setT t b ph).P < (setT t b ph).su) := by
    show ¬ (0 ≤ (setT t b ph).sp ∧ (setT t b ph).sl = (b * t.P + o) / t.P ∧ (b * t.P + o) % t.P < (setT t b ph).su)
    rw [e1]
    rintro ⟨g1, g2, _⟩
    by_cases hc : 0 ≤ t.sp ∧ t.sl = b
    · simp only [setT, if_pos hc] at g1; omega
    · simp only [setT, if_neg hc] at g1 g2; exact hc ⟨g1, g2⟩
  have hg : (setT t b ph).ha[(b * t.P + o).toNat]? = some (whr t (b * t.P + o)).isSome := by
    show (ovr t.ha (b * t.P).toNat (hvF t b))[(b * t.P + o).toNat]? = _
    rw [ovr_get hfl, hvF_len, if_neg (by omega), if_pos (by omega)]
    unfold hvF
    rw [List.getElem?_map, show (b * t.P + o).toNat - (b * t.P).toNat = o.toNat by omega, List.getElem?_range (by omega)]
    show some (whr t (b * t.P + (o.toNat : Int))).isSome = _
    rw [show (o.toNat : Int) = o by omega]
  have hd : (setT t b ph).da[b.toNat]? = some ph := List.getElem?_set_self (by omega)
  have e0 : whr (setT t b ph) (b * t.P + o) = bwhr (setT t b ph) (b * t.P + o) := by unfold whr; rw [hl]
  rw [e0, bwhr, if_neg hs, List.getD_eq_getElem?_getD, hg]
  show (if _ = true then some ((setT t b ph).da.getD ((b * t.P + o) / t.P).toNat 0, (b * t.P + o) % t.P) else none) = _
  rw [e1, e2, List.getD_eq_getElem?_getD, hd]
  cases whr t (b * t.P + o) <;> rfl
theorem whr_set_out (hm : May t) (hb0 : 0 ≤ b) (hb1 : b ≤ t.G - 1) {q : Int} (hq0 : 0 ≤ q) (hq : q / t.P ≠ b) : whr (setT t b ph) q = whr t q := by
  have hL := hm.1
  have hP := hL.1.1.1
  have hend := pg_in hL hb0 hb1 (show 0 ≤ t.P - 1 by omega) (show t.P - 1 < t.P by omega)
  have hpi0 := pg_in hL hb0 hb1 (Int.le_refl 0) (show 0 < t.P by omega)
  have hfl : (b * t.P).toNat + (hvF t b).length ≤ t.ha.length := by rw [hvF_len]; omega
  refine whr_of_lwhr (lwhr_fgt_same hq0 (by unfold inBk; simpa using hq)) ?_
  have hq1 : ¬ (b * t.P ≤ q ∧ q < b * t.P + t.P) := fun h => hq (by
    have := (blk_div (P := t.P) (b := b) (o := q - b * t.P) (by omega) (by omega)).1
    rwa [show b * t.P + (q - b * t.P) = q by omega] at this)
  have h1 : (0 ≤ (setT t b ph).sp ∧ (setT t b ph).sl = q / t.P ∧ q % t.P < (setT t b ph).su) ↔ (0 ≤ t.sp ∧ t.sl = q / t.P ∧ q % t.P < t.su) := by
    by_cases hc : 0 ≤ t.sp ∧ t.sl = b
    · simp only [setT, if_pos hc]
      constructor
      · rintro ⟨g, _⟩; omega
      · rintro ⟨_, g, _⟩; exact absurd (g.symm.trans hc.2) hq
    · simp only [setT, if_neg hc]
  have h2 : (setT t b ph).ha.getD q.toNat false = t.ha.getD q.toNat false := by
    show (ovr t.ha (b * t.P).toNat (hvF t b)).getD q.toNat false = _
    rw [List.getD_eq_getElem?_getD, List.getD_eq_getElem?_getD, ovr_get hfl, hvF_len]
    split
    · rfl
    · rw [if_neg (by omega)]
  have hqd : 0 ≤ q / t.P := Int.ediv_nonneg hq0 (by omega)
  have h3 : (setT t b ph).da.getD (q / t.P).toNat 0 = t.da.getD (q / t.P).toNat 0 := by
    show (t.da.set b.toNat ph).getD _ 0 = _
    rw [List.getD_eq_getElem?_getD, List.getD_eq_getElem?_getD, List.getElem?_set_ne (by omega)]
  have hsp : (setT t b ph).P = t.P := rfl
  unfold bwhr
  rw [h2, hsp, h3]
  by_cases hc : 0 ≤ t.sp ∧ t.sl = q / t.P ∧ q % t.P < t.su
  · rw [if_pos (h1.2 hc), if_pos hc]
    have : (setT t b ph).sp = t.sp := by
      have hn : ¬ (0 ≤ t.sp ∧ t.sl = b) := fun h => hq (hc.2.1.symm.trans h.2)
      simp only [setT, if_neg hn]
    rw [this]
  · rw [if_neg (mt h1.1 hc), if_neg hc]
end
end Go.Proofs.Ytnmhhelcaibdoaa.Pl
