/- Plain laws: no two pages stand at one place; a page stands in a block that is used. -/
import Derived.Test.YtnmhhelcaibdoaaXc
namespace Go.Proofs.Ytnmhhelcaibdoaa.Pl
open Go Go.RowKit Sl
set_option linter.unusedVariables false
set_option linter.unusedSimpArgs false
section
variable {t t' : Tb} {q q' a c : Int}
theorem lwhr_at {lo : List Lg} (h : lwhr lo q = some (a, c)) : ∃ (i : Nat) (l : Lg), lo[i]? = some l ∧ a = l.ph ∧ 0 ≤ c ∧ l.pg[c.toNat]? = some q := by
  induction lo with
  | nil => cases h
  | cons l r ih =>
    unfold lwhr at h
    split at h
    · rename_i h0
      injection h with h
      injection h with h1 h2
      unfold ixOf at h0 h2
      split at h0
      · rename_i hm
        rw [if_pos hm] at h2
        refine ⟨0, l, rfl, h1.symm, by omega, ?_⟩
        have hl := List.idxOf_lt_length_iff.2 hm
        rw [show c.toNat = l.pg.idxOf q by omega, List.getElem?_eq_getElem hl]
        simp
      · omega
    · obtain ⟨i, l', g⟩ := ih h
      exact ⟨i + 1, l', by simpa using g.1, g.2⟩
/-- Where a page stands, case by case. -/
inductive At (t : Tb) (q a c : Int) : Prop
  | log {i : Nat} {l : Lg} (hi : t.lo[i]? = some l) (ha : a = l.ph) (hc : 0 ≤ c) (hq : l.pg[c.toNat]? = some q)
  | seq (h0 : 0 ≤ t.sp) (ha : a = t.sp) (hb : q / t.P = t.sl) (ho : q % t.P = c) (hu : c < t.su)
  | dat (h0 : 0 ≤ a) (hd : t.da[(q / t.P).toNat]? = some a) (ho : q % t.P = c)
theorem at_of (hm : May t) (h0 : 0 ≤ q) (h1 : q < t.ha.length) (h : whr t q = some (a, c)) : At t q a c := by
  unfold whr at h
  split at h
  · rename_i x hx
    injection h with h; subst h
    obtain ⟨i, l, g1, g2, g3, g4⟩ := lwhr_at hx
    exact .log g1 g2 g3 g4
  · unfold bwhr at h
    split at h
    · rename_i hs
      injection h with h
      injection h with e1 e2
      exact .seq hs.1 e1.symm hs.2.1.symm e2 (by omega)
    · split at h
      · rename_i hh
        injection h with h
        injection h with e1 e2
        have hlt : q.toNat < t.ha.length := by omega
        rw [getD_of hlt] at hh
        obtain ⟨d, g1, g2⟩ := hm.2.2.2.2 q.toNat (by rw [getN hlt, hh])
        rw [Int.toNat_of_nonneg h0] at g1
        have e3 : t.da.getD (q / t.P).toNat 0 = d := by simp [List.getD_eq_getElem?_getD, g1]
        rw [e3] at e1
        subst e1
        exact .dat g2 g1 e2
      · cases h
theorem used_dat (hm : May t) {i : Nat} {d : Int} (h : t.da[i]? = some d) (h0 : 0 ≤ d) : d ∈ usedL t := List.mem_append_left _ (mem_nn.2 ⟨List.mem_cons_of_mem _ (List.mem_of_getElem? h), h0⟩)
theorem used_seq (h0 : 0 ≤ t.sp) : t.sp ∈ usedL t := List.mem_append_left _ (mem_nn.2 ⟨List.mem_cons_self, h0⟩)
theorem used_log {i : Nat} {l : Lg} (h : t.lo[i]? = some l) : l.ph ∈ usedL t := List.mem_append_right _ (List.mem_map.2 ⟨l, List.mem_of_getElem? h, rfl⟩)
theorem ph_nn (hm : May t) {i : Nat} {l : Lg} (h : t.lo[i]? = some l) : 0 ≤ l.ph := (hm.1.2.1 i l h).2.1.1
theorem used_nodup (hm : May t) : (usedL t).Nodup := by
  have h := hm.2.2.1
  rw [nn_app] at h
  have e : nn (t.lo.map Lg.ph) = t.lo.map Lg.ph := by
    unfold nn
    refine List.filter_eq_self.2 fun x hx => ?_
    obtain ⟨l, hl, rfl⟩ := List.mem_map.1 hx
    obtain ⟨i, hi⟩ := List.mem_iff_getElem?.1 hl
    simpa using ph_nn hm hi
  rw [e] at h
  exact h
theorem u_dl (hm : May t) {i j : Nat} {d : Int} {l : Lg} (h : t.da[i]? = some d) (h0 : 0 ≤ d) (hl : t.lo[j]? = some l) : d ≠ l.ph := by
  have := used_nodup hm
  unfold usedL at this
  exact (List.nodup_append.1 this).2.2 _ (mem_nn.2 ⟨List.mem_cons_of_mem _ (List.mem_of_getElem? h), h0⟩) _ (List.mem_map.2 ⟨l, List.mem_of_getElem? hl, rfl⟩)
theorem u_sl (hm : May t) {j : Nat} {l : Lg} (h0 : 0 ≤ t.sp) (hl : t.lo[j]? = some l) : t.sp ≠ l.ph := by
  have := used_nodup hm
  unfold usedL at this
  exact (List.nodup_append.1 this).2.2 _ (mem_nn.2 ⟨List.mem_cons_self, h0⟩) _ (List.mem_map.2 ⟨l, List.mem_of_getElem? hl, rfl⟩)
theorem u_sd (hm : May t) {i : Nat} {d : Int} (h0 : 0 ≤ t.sp) (h : t.da[i]? = some d) : t.sp ≠ d := fun e => by
  have := used_nodup hm
  unfold usedL at this
  have := (List.nodup_append.1 this).1
  unfold nn at this
  rw [List.filter_cons_of_pos (by simpa using h0)] at this
  exact (List.nodup_cons.1 this).1 (List.mem_filter.2 ⟨e ▸ List.mem_of_getElem? h, by simpa using h0⟩)
theorem u_ll (hm : May t) {i j : Nat} {l l' : Lg} (h : t.lo[i]? = some l) (h' : t.lo[j]? = some l') (e : l.ph = l'.ph) : i = j := by
  have := used_nodup hm
  unfold usedL at this
  have hn := (List.nodup_append.1 this).2.1
  refine Classical.byContradiction fun hij => ?_
  exact pw_get (R := fun x y => x ≠ y) hn (fun _ _ => Ne.symm) (by rw [List.getElem?_map, h]; rfl) (by rw [List.getElem?_map, h']; rfl) hij e
theorem u_dd (hm : May t) {i j : Nat} {d : Int} (h : t.da[i]? = some d) (h' : t.da[j]? = some d) (h0 : 0 ≤ d) : i = j := by
  have := used_nodup hm
  unfold usedL at this
  have hn := (List.nodup_append.1 this).1
  have hn2 : (nn t.da).Nodup := by
    unfold nn at hn ⊢
    rw [List.filter_cons] at hn
    split at hn
    · exact (List.nodup_cons.1 hn).2
    · exact hn
  clear this hn
  revert i j
  generalize t.da = da at hn2
  induction da with
  | nil => intro i j h; simp at h
  | cons x da ih =>
    intro i j h h'
    have hx : nn (x :: da) = if 0 ≤ x then x :: nn da else nn da := by unfold nn; rw [List.filter_cons]; simp
    have hn3 : (nn da).Nodup := by
      rw [hx] at hn2
      split at hn2
      · exact (List.nodup_cons.1 hn2).2
      · exact hn2
    have hno : ∀ k : Nat, da[k]? = some d → x ≠ d := fun k hk e => by
      subst e
      rw [hx, if_pos h0] at hn2
      exact (List.nodup_cons.1 hn2).1 (mem_nn.2 ⟨List.mem_of_getElem? hk, h0⟩)
    cases i with
    | zero =>
      cases j with
      | zero => rfl
      | succ j => simp at h h'; exact absurd h (hno j h')
    | succ i =>
      cases j with
      | zero => simp at h h'; exact absurd h' (hno i h)
      | succ j => simp at h h'; rw [ih hn3 h h']
theorem whr_used (hm : May t) (h0 : 0 ≤ q) (h1 : q < t.ha.length) (h : whr t q = some (a, c)) : a ∈ usedL t := by
  cases at_of hm h0 h1 h with
  | log hi ha _ _ => rw [ha]; exact used_log hi
  | seq hs ha _ _ _ => rw [ha]; exact used_seq hs
  | dat hd h2 _ => exact used_dat hm h2 hd
theorem whr_inj (hm : May t) (h0 : 0 ≤ q) (h1 : q < t.ha.length) (h0' : 0 ≤ q') (h1' : q' < t.ha.length) (h : whr t q = some (a, c)) (h' : whr t q' = some (a, c)) : q = q' := by
  have hP : 4 ≤ t.P := hm.1.1.1.1.1
  have hdm : q / t.P = q' / t.P → q % t.P = q' % t.P → q = q' := fun e1 e2 => by
    have g1 := Int.mul_ediv_add_emod q t.P
    have g2 := Int.mul_ediv_add_emod q' t.P
    rw [e1, e2] at g1
    omega
  cases at_of hm h0 h1 h with
  | log hi ha hc hq =>
    cases at_of hm h0' h1' h' with
    | log hi' ha' hc' hq' =>
      have := u_ll hm hi hi' (ha.symm.trans ha')
      subst this
      rw [hi] at hi'; cases hi'
      rw [hq] at hq'; cases hq'; rfl
    | seq hs ha' _ _ _ => exact absurd (ha'.symm.trans ha) (u_sl hm hs hi)
    | dat hd h2 _ => exact absurd ha (u_dl hm h2 hd hi)
  | seq hs ha hb ho hu =>
    cases at_of hm h0' h1' h' with
    | log hi' ha' hc' hq' => exact absurd (ha.symm.trans ha') (u_sl hm hs hi')
    | seq hs' ha' hb' ho' hu' => exact hdm (by omega) (by omega)
    | dat hd h2 _ => exact absurd ha.symm (u_sd hm hs h2)
  | dat hd h2 ho =>
    cases at_of hm h0' h1' h' with
    | log hi' ha' hc' hq' => exact absurd ha' (u_dl hm h2 hd hi')
    | seq hs' ha' hb' ho' hu' => exact absurd ha'.symm (u_sd hm hs' h2)
    | dat hd' h2' ho' =>
      have := u_dd hm h2 h2' hd
      have g1 : 0 ≤ q / t.P := Int.ediv_nonneg h0 (by omega)
      have g2 : 0 ≤ q' / t.P := Int.ediv_nonneg h0' (by omega)
      exact hdm (by omega) (by omega)
theorem whr_seq_at (hm : May t) (h0 : 0 ≤ q) (h1 : q < t.ha.length) (hs : 0 ≤ t.sp) (h : whr t q = some (t.sp, c)) : q / t.P = t.sl ∧ q % t.P = c ∧ c < t.su := by
  cases at_of hm h0 h1 h with
  | log hi ha _ _ => exact absurd ha (u_sl hm hs hi)
  | seq _ _ hb ho hu => exact ⟨hb, ho, hu⟩
  | dat hd h2 _ => exact absurd rfl (u_sd hm hs h2)
end
end Go.Proofs.Ytnmhhelcaibdoaa.Pl
