/- The copies of a block's pages (plan.copies): the iterator. -/
import Derived.Test.YtnmhhelcaibdoaaVa
namespace Go.Proofs.Ytnmhhelcaibdoaa.Pl
open Go Go.RowKit Sl
set_option linter.unusedVariables false
set_option linter.unusedSimpArgs false
/-- A copy: from where, to which page. -/
abbrev Cpy := (Int × Int) × Int
def enC (x : Cpy) : List Value := [.agg #[.int .i64 x.1.1, .int .i64 x.1.2, .int .i64 x.2]]
def cpO (t : Tb) (b o : Int) : Option Cpy := (whr t (b * t.P + o)).map fun p => (p, o)
/-- The copies of block b's pages from a on, below o. -/
def cpL (t : Tb) (b a o : Int) : List Cpy := (List.range (o - a).toNat).filterMap fun i : Nat => cpO t b (a + i)
theorem cpL_succ {t : Tb} {b a o : Int} (h : a ≤ o) : cpL t b a (o + 1) = cpL t b a o ++ (cpO t b o).toList := by
  unfold cpL
  rw [show (o + 1 - a).toNat = (o - a).toNat + 1 by omega, List.range_succ, List.filterMap_append]
  congr 1
  have : a + ((o - a).toNat : Int) = o := by omega
  simp only [List.filterMap_cons, List.filterMap_nil, this]
  cases cpO t b o <;> rfl
theorem cpL_zero {t : Tb} {b a : Int} : cpL t b a a = [] := by unfold cpL; simp
theorem cpL_pre {t : Tb} {b a o : Int} (h : a ≤ o) : ∀ k : Nat, cpL t b a o <+: cpL t b a (o + k)
  | 0 => by simp
  | k + 1 => by
    refine (cpL_pre h k).trans ?_
    rw [show o + ((k + 1 : Nat) : Int) = (o + k) + 1 by omega, cpL_succ (by omega)]
    exact List.prefix_append _ _
theorem cpL_pre' {t : Tb} {b a o q : Int} (h : a ≤ o) (hq : o ≤ q) : cpL t b a o <+: cpL t b a q := by
  have := cpL_pre (t := t) (b := b) h (q - o).toNat
  rwa [show o + ((q - o).toNat : Int) = q by omega] at this
theorem cpO_some {t : Tb} {b o : Int} (h : (whr t (b * t.P + o)).isSome = true) : cpO t b o = some ((pa (whr t (b * t.P + o)), pb (whr t (b * t.P + o))), o) := by
  unfold cpO
  cases hw : whr t (b * t.P + o) with
  | none => rw [hw] at h; cases h
  | some x => rfl
theorem cpO_none {t : Tb} {b o : Int} (h : (whr t (b * t.P + o)).isSome = false) : cpO t b o = none := by
  unfold cpO
  cases hw : whr t (b * t.P + o) with
  | none => rfl
  | some x => rw [hw] at h; cases h
theorem cpL_yes {t : Tb} {b a o : Int} (h : a ≤ o) (hw : (whr t (b * t.P + o)).isSome = true) : cpL t b a (o + 1) = cpL t b a o ++ [((pa (whr t (b * t.P + o)), pb (whr t (b * t.P + o))), o)] := by
  rw [cpL_succ h, cpO_some hw]; rfl
theorem cpL_no {t : Tb} {b a o : Int} (h : a ≤ o) (hw : (whr t (b * t.P + o)).isSome = false) : cpL t b a (o + 1) = cpL t b a o := by
  rw [cpL_succ h, cpO_none hw]; simp
theorem pg_in {t : Tb} {b o : Int} (h : Lists t) (hb0 : 0 ≤ b) (hb1 : b ≤ t.G - 1) (ho0 : 0 ≤ o) (ho1 : o < t.P) : (0 ≤ b * t.P ∧ b * t.P ≤ 8192) ∧ 0 ≤ b * t.P + o ∧ b * t.P + o < t.ha.length ∧ b * t.P + o ≤ 8192 := by
  have h1 := h.1.2.2.1
  have h2 := gp_le h.1.1
  have hP := h.1.1.1.1
  have e : (b + 1) * t.P ≤ t.G * t.P := Int.mul_le_mul_of_nonneg_right (by omega) (by omega)
  have e0 : 0 ≤ b * t.P := Int.mul_nonneg hb0 (by omega)
  rw [Int.add_mul, Int.one_mul] at e
  omega
/-- What the iterator reads. -/
structure CpF (w0 : World) (M : Own) (b1 b2 b3 : Nat) (a b : Int) (t : Tb) (Ad : Option Addr) (cd : Nat) (Ah : Option Addr) (ch : Nat) (Al : Option Addr) (cl : Nat) : Prop where
  r1 : Rd w0 M ⟨b1, 0, none⟩ (.int .i64 a)
  r2 : ∀ i v, (cT t Ad cd Ah ch Al cl)[i]? = some v → Rd w0 M ((⟨b2, 0, none⟩ : Addr).add i) v
  r3 : Rd w0 M ⟨b3, 0, none⟩ (.int .i64 b)
  tab : TabR w0 M (.agg (cT t Ad cd Ah ch Al cl).toArray) t
theorem CpF.sub {w0 : World} {M M' : Own} {b1 b2 b3 : Nat} {a b : Int} {t : Tb} {Ad Ah Al : Option Addr} {cd ch cl : Nat} (h : CpF w0 M b1 b2 b3 a b t Ad cd Ah ch Al cl) (hs : M.Sublist M') : CpF w0 M' b1 b2 b3 a b t Ad cd Ah ch Al cl :=
  ⟨h.r1.sub hs, fun i v hv => (h.r2 i v hv).sub hs, h.r3.sub hs, h.tab.sub hs⟩
section
variable {w0 : World}
theorem copies1_g {l b1 b2 b3 : Nat} {J : List Cpy → Own → Prop} {a b : Int} {t : Tb} {Ad Ah Al : Option Addr} {cd ch cl : Nat} (hLi : Lists t) (hb0 : 0 ≤ b) (hb1 : b ≤ t.G - 1) (ha0 : 0 ≤ a) (ha1 : a ≤ t.P)
    (hF : ∀ pre M, J pre M → CpF w0 M b1 b2 b3 a b t Ad cd Ah ch Al cl) (hy : ∀ pre x M, (pre ++ [x]) <+: cpL t b a t.P → J pre M → YldG Try.prog w0 M l (enC x) (fun v M' => v = .bool true ∧ J (pre ++ [x]) M')) :
    ∀ M, J [] M → Gives Try.prog w0 M 135 [.func (.yield l) #[] #[], .pointer (some ⟨b1, 0, none⟩), .pointer (some ⟨b2, 0, none⟩), .pointer (some ⟨b3, 0, none⟩)] (fun v M' => J (cpL t b a t.P) M') := by
  intro M hJ0
  refine enter Try.func135 rfl Try.ntmps135 Try.results135 (Nat.le_of_ble_eq_true rfl) ?_
  have hf0 := hF _ _ hJ0
  have hP := hLi.1.1.1
  refine c_seq ?_
  refine c_region ?_
  refine x_ld rfl (by (conv => lhs; whnf); first | done | rfl) (hf0.r1) ?_
  refine w_asg rfl (by (conv => lhs; whnf); first | done | rfl) ?_
  refine w_nil ?_
  refine tq_n ?_
  refine c_block ?_
  refine c_loop_ov [9, 10, 11, 12, 16, 17, 18, 19, 20, 21, 22, 23, 15, 24, 25, 6, 7, 26, 27, 28, 29, 30, 31, 32, 33, 34, 13, 14, 5] (fun m s L => ∃ (o : Int), a ≤ o ∧ o ≤ t.P ∧ J (cpL t b a o) L ∧ m = (t.P - o).toNat ∧ s = [(5, .int .i64 o)]) ((t.P - a).toNat) [(5, .int .i64 a)] (by repeat (first | exact .nil | refine .cons rfl ?_)) (by first | exact SubL.out | repeat (first | exact List.Sublist.refl _ | exact List.nil_sublist _ | refine .cons_cons _ ?_ | refine .cons _ ?_ | refine List.Sublist.append (List.Sublist.refl _) ?_ | exact List.sublist_append_left _ _ | refine List.Sublist.trans ?_ (List.sublist_append_right _ _))) (⟨a, by omega, by omega, by rw [cpL_zero]; exact hJ0, rfl, rfl⟩) ?_
  rintro mI sI LI gL0 ⟨o, hao, hoP, hJ, rfl, rfl⟩
  refine c_seq ?_
  refine c_seq ?_
  refine c_region ?_
  refine w_mov rfl (by (conv => lhs; whnf); first | done | rfl) ?_
  refine x_fa rfl (by (conv => lhs; whnf); first | done | rfl) ?_
  refine x_ld rfl (by (conv => lhs; whnf); first | done | rfl) (((hF _ _ hJ).r2 0 _ rfl)) ?_
  refine w_lss rfl (by (conv => lhs; whnf); first | done | rfl) (by (conv => lhs; whnf); first | done | rfl) ?_
  refine w_nil ?_
  refine tq_n ?_
  refine c_cond_d (by (conv => lhs; whnf); first | done | rfl) (fun hc12 => ?_) (fun hc12 => ?_)
  · have hf := hF _ _ hJ
    have hpi := pg_in hLi hb0 hb1 (show 0 ≤ o by omega) hc12
    refine c_skip ?_
    refine tq_n ?_
    refine c_seq ?_
    refine c_block ?_
    refine c_seq ?_
    refine c_region ?_
    refine x_lda (vs := cT t Ad cd Ah ch Al cl) rfl (by (conv => lhs; whnf); first | done | rfl) (rfl) (hf.r2) ?_
    refine x_ld rfl (by (conv => lhs; whnf); first | done | rfl) (hf.r3) ?_
    refine x_fa rfl (by (conv => lhs; whnf); first | done | rfl) ?_
    refine x_ld rfl (by (conv => lhs; whnf); first | done | rfl) (hf.r2 0 _ rfl) ?_
    refine w_mul rfl (by (conv => lhs; whnf); first | done | rfl) (by (conv => lhs; whnf); first | done | rfl) (by omega) ?_
    refine w_mov rfl (by (conv => lhs; whnf); first | done | rfl) ?_
    refine w_add rfl (by (conv => lhs; whnf); first | done | rfl) (by (conv => lhs; whnf); first | done | rfl) (by omega) ?_
    refine x_callp (by decide) (where_g hf.tab hLi hpi.2.1 hpi.2.2.1) rfl rfl rfl ?_
    refine w_mov rfl (by (conv => lhs; whnf); first | done | rfl) ?_
    refine w_ext rfl (by (conv => lhs; whnf); first | done | rfl) (by (conv => lhs; whnf); first | done | rfl) ?_
    refine w_ext rfl (by (conv => lhs; whnf); first | done | rfl) (by (conv => lhs; whnf); first | done | rfl) ?_
    refine x_al rfl ?_
    intro b6
    refine x_stw rfl (by (conv => lhs; whnf); first | done | rfl) (by (conv => lhs; whnf); first | done | rfl) rfl rfl (by first | exact HasC.out | exact PutC.out | repeat (first | exact .here | apply Has.there | apply Put.there | apply Has.app | apply Put.app)) rfl ?_
    refine w_asg rfl (by (conv => lhs; whnf); first | done | rfl) ?_
    refine w_nil ?_
    refine tq_n ?_
    refine c_mid_ov [26, 27, 28, 29, 30, 31, 32, 33, 34] (fun s L => s = [(34, .bool false)] ∧ J (cpL t b a (o + 1)) L) ?_ ?_
    · refine c_region_y ?_
      all_goals (refine w_mov rfl (by (conv => lhs; whnf); first | done | rfl) ?_)
      all_goals (refine w_mov rfl (by (conv => lhs; whnf); first | done | rfl) ?_)
      all_goals (first | refine w_lit true rfl rfl rfl ?_ | refine w_lit false rfl rfl rfl ?_ | refine w_cases_od rfl rfl rfl (fun hg => ?_) (fun hg => ?_) | refine w_cases_o rfl rfl rfl (fun hg => ?_) (fun hg => ?_) | skip)
      all_goals (first | refine w_skip rfl ?_ | (refine w_mov rfl (by (conv => lhs; whnf); first | done | rfl) ?_))
      all_goals (first | refine w_skip rfl ?_ | (refine x_ldao rfl (by (conv => lhs; whnf); first | done | rfl) (by first | exact HasC.out | exact PutC.out | repeat (first | exact .here | apply Has.there | apply Put.there | apply Has.app | apply Put.app)) rfl ?_))
      all_goals (first | refine w_skip rfl ?_ | (refine w_mov rfl (by (conv => lhs; whnf); first | done | rfl) ?_))
      all_goals (first | refine w_skip rfl ?_ | (refine x_bld rfl (.cons (by (conv => lhs; whnf); first | done | rfl) (.cons (by (conv => lhs; whnf); first | done | rfl) .nil)) rfl ?_))
      all_goals (first | refine w_skip rfl ?_ | (refine w_yield ((hy (cpL t b a o) ((pa (whr t (b * t.P + o)), pb (whr t (b * t.P + o))), o) _ (by rw [← cpL_yes hao hg]; exact cpL_pre' (by omega) (by omega)) hJ).weak (by first | exact SubL.out | repeat (first | exact List.Sublist.refl _ | exact List.nil_sublist _ | refine .cons_cons _ ?_ | refine .cons _ ?_ | refine List.Sublist.append (List.Sublist.refl _) ?_ | exact List.sublist_append_left _ _ | refine List.Sublist.trans ?_ (List.sublist_append_right _ _)))) rfl (by (conv => lhs; whnf); first | done | rfl) rfl ?_; rintro _ M2 ⟨rfl, hJ2⟩))
      all_goals (first | refine w_skip rfl ?_ | (refine w_not rfl (by (conv => lhs; whnf); first | done | rfl) ?_))
      all_goals (first | refine w_pick_t rfl rfl (by (conv => lhs; whnf); first | done | rfl) ?_ | refine w_pick_f rfl rfl (by (conv => lhs; whnf); first | done | rfl) ?_)
      all_goals (refine w_nil ?_)
      all_goals (refine tq_n ?_)
      all_goals (exact ⟨(by first | ((repeat (first | with_reducible exact Ag.refl | with_reducible exact Ag.ov | (with_reducible refine Ag.upd ?_ ?_; exact rfl) | with_reducible refine Ag.putn ?_ | (with_reducible refine Ag.ovs ?_ ?_; exact rfl))); done) | (repeat (first | exact Ag.refl | exact Ag.ov | (refine Ag.upd ?_ ?_; exact rfl) | refine Ag.putn ?_ | (refine Ag.ovs ?_ ?_; exact rfl)))), [(34, _)], _, (by first | exact List.sublist_cons_self _ _ | exact List.Sublist.refl _), (by repeat (first | exact .nil | refine .cons rfl ?_)), ⟨rfl, by first | (rw [cpL_yes hao hg]; exact hJ2) | (rw [cpL_no hao hg]; exact hJ)⟩⟩)
    · rintro sM LM gM ⟨rfl, hJ2⟩
      refine c_cond_f rfl ?_
      refine c_skip ?_
      refine bq_n ?_
      refine tq_n ?_
      refine c_region ?_
      refine w_mov rfl (by (conv => lhs; whnf); first | done | rfl) ?_
      refine w_add rfl (by (conv => lhs; whnf); first | done | rfl) (by (conv => lhs; whnf); first | done | rfl) (by omega) ?_
      refine w_asg rfl (by (conv => lhs; whnf); first | done | rfl) ?_
      refine w_nil ?_
      refine tq_n ?_
      exact ⟨(by first | ((repeat (first | with_reducible exact Ag.refl | with_reducible exact Ag.ov | (with_reducible refine Ag.upd ?_ ?_; exact rfl) | with_reducible refine Ag.putn ?_ | (with_reducible refine Ag.ovs ?_ ?_; exact rfl))); done) | (repeat (first | exact Ag.refl | exact Ag.ov | (refine Ag.upd ?_ ?_; exact rfl) | refine Ag.putn ?_ | (refine Ag.ovs ?_ ?_; exact rfl)))), (t.P - (o + 1)).toNat, [(5, .int .i64 (o + 1))], _, by omega, (by first | exact SubL.out | repeat (first | exact List.Sublist.refl _ | exact List.nil_sublist _ | refine .cons_cons _ ?_ | refine .cons _ ?_ | refine List.Sublist.append (List.Sublist.refl _) ?_ | exact List.sublist_append_left _ _ | refine List.Sublist.trans ?_ (List.sublist_append_right _ _))), (by repeat (first | exact .nil | refine .cons rfl ?_)), ⟨o + 1, by omega, by omega, hJ2, rfl, rfl⟩⟩
  · have hoe : o = t.P := (by omega)
    subst hoe
    refine c_exit ?_
    refine tq_e ?_
    refine tq_e ?_
    refine bq_e ?_
    exact rq_n .nil (List.Sublist.refl _) (hJ)
end
end Go.Proofs.Ytnmhhelcaibdoaa.Pl
