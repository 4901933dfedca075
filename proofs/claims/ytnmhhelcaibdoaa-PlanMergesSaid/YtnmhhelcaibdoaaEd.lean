/- The reference's Same: two tables are the same. -/
import Derived.Test.YtnmhhelcaibdoaaEc
import Derived.Test.YtnmhhelcaibdoaaSlV
namespace Go.Proofs.Ytnmhhelcaibdoaa.Pl
open Go Go.RowKit Sl
set_option linter.unusedVariables false
set_option linter.unusedSimpArgs false
noncomputable instance (t t' : Tb) : Decidable (t = t') := Classical.propDecidable _
noncomputable instance (l l' : Lg) : Decidable (l = l') := Classical.propDecidable _
abbrev SameHd (t t' : Tb) : Prop := t.P = t'.P ∧ t.G = t'.G ∧ t.K = t'.K ∧ (t.sp = t'.sp ∧ t.sl = t'.sl ∧ t.su = t'.su) ∧ t.da = t'.da ∧ t.ha.length = t'.ha.length ∧ t.lo.length = t'.lo.length
theorem tb_ext {t t' : Tb} (h : SameHd t t') (h1 : t.ha = t'.ha) (h2 : t.lo = t'.lo) : t = t' := by
  obtain ⟨e1, e2, e3, ⟨e4, e5, e6⟩, e7, _, _⟩ := h
  cases t; cases t'; simp_all
section
variable {w0 : World} {L : Own}
theorem samer_g {v u : Value} {t t' : Tb} (h : TabR w0 L v t) (h' : TabR w0 L u t') : Gives Try.prog w0 L 22 [v, u] (fun v' L' => v' = .bool (decide (t = t')) ∧ L' = L) := by
  refine enterP Try.func22 rfl Try.ntmps22 Try.results22 (Nat.le_of_ble_eq_true rfl) fun w hM => ?_
  have hT' := h'.at hM
  obtain ⟨Ae, ce, Ag', cg, Am, cm, rfl⟩ := hT'.form
  obtain ⟨hd', hh', hlo'⟩ := hT'.lists
  obtain ⟨_, _, ea, hdc', hdl', hdA', hdR'⟩ := id hd'.ex
  cases ea
  obtain ⟨_, _, ea, hhc', hhl', hhA', hhR'⟩ := id hh'.ex
  cases ea
  obtain ⟨_, _, ea, hlc', hll', hlA', hlR'⟩ := LogR.opn hlo'
  cases ea
  obtain ⟨vd, vh, vl, rfl, hd, hh, hlo⟩ := ((h).at hM).ex; obtain ⟨Ad, cd, rfl, hdc, hdl, hdA, hdR⟩ := id hd.ex; obtain ⟨Ah, ch, rfl, hhc, hhl, hhA, hhR⟩ := id hh.ex; obtain ⟨Al, cl, rfl, hlc, hll, hlA, hlR⟩ := LogR.opn hlo
  clear hM
  refine c_seq ?_
  refine c_region ?_
  refine x_boxa rfl (by (conv => lhs; whnf); first | done | rfl) ?_
  intro b2
  refine x_boxa rfl (by (conv => lhs; whnf); first | done | rfl) ?_
  intro b3
  refine w_asg rfl (by (conv => lhs; whnf); first | done | rfl) ?_
  refine w_nil ?_
  refine tq_n ?_
  refine c_seq ?_
  refine c_seq ?_
  refine c_region_j [7, 8, 9, 10, 11, 12, 13, 14, 15, 16, 17, 18, 19, 20, 21, 22, 23, 24, 25, 26, 27, 28, 29, 30, 31, 32, 33, 34, 35, 36, 37, 38, 39, 40, 41, 42, 43, 44, 45, 46, 47, 48, 49, 50, 51, 52, 53, 54, 55, 56, 57, 58] 58 (.bool (decide (¬ SameHd t t'))) ?_ (fun g1 => ?_)
  · all_goals (refine x_fa rfl (by (conv => lhs; whnf); first | done | rfl) ?_)
    all_goals (refine x_ldo rfl (by (conv => lhs; whnf); first | done | rfl) (by first | exact HasC.out | exact PutC.out | repeat (first | exact .here | apply Has.there | apply Put.there | apply Has.app | apply Put.app)) (by (conv => lhs; whnf); first | done | rfl) ?_)
    all_goals (refine x_fa rfl (by (conv => lhs; whnf); first | done | rfl) ?_)
    all_goals (refine x_ldo rfl (by (conv => lhs; whnf); first | done | rfl) (by first | exact HasC.out | exact PutC.out | repeat (first | exact .here | apply Has.there | apply Put.there | apply Has.app | apply Put.app)) (by (conv => lhs; whnf); first | done | rfl) ?_)
    all_goals (refine w_neq rfl (by (conv => lhs; whnf); first | done | rfl) (by (conv => lhs; whnf); first | done | rfl) ?_)
    all_goals (refine w_mov rfl (by (conv => lhs; whnf); first | done | rfl) ?_)
    all_goals (first | refine w_lit true rfl rfl rfl ?_ | refine w_lit false rfl rfl rfl ?_ | refine w_cases_od rfl rfl rfl (fun hg => ?_) (fun hg => ?_) | refine w_cases_o rfl rfl rfl (fun hg => ?_) (fun hg => ?_) | skip)
    all_goals (first | refine w_skip rfl ?_ | (refine x_fa rfl (by (conv => lhs; whnf); first | done | rfl) ?_))
    all_goals (first | refine w_skip rfl ?_ | (refine x_ldo rfl (by (conv => lhs; whnf); first | done | rfl) (by first | exact HasC.out | exact PutC.out | repeat (first | exact .here | apply Has.there | apply Put.there | apply Has.app | apply Put.app)) (by (conv => lhs; whnf); first | done | rfl) ?_))
    all_goals (first | refine w_skip rfl ?_ | (refine x_fa rfl (by (conv => lhs; whnf); first | done | rfl) ?_))
    all_goals (first | refine w_skip rfl ?_ | (refine x_ldo rfl (by (conv => lhs; whnf); first | done | rfl) (by first | exact HasC.out | exact PutC.out | repeat (first | exact .here | apply Has.there | apply Put.there | apply Has.app | apply Put.app)) (by (conv => lhs; whnf); first | done | rfl) ?_))
    all_goals (first | refine w_skip rfl ?_ | (refine w_neq rfl (by (conv => lhs; whnf); first | done | rfl) (by (conv => lhs; whnf); first | done | rfl) ?_))
    all_goals (first | refine w_pick_t rfl rfl (by (conv => lhs; whnf); first | done | rfl) ?_ | refine w_pick_f rfl rfl (by (conv => lhs; whnf); first | done | rfl) ?_)
    all_goals (refine w_mov rfl (by (conv => lhs; whnf); first | done | rfl) ?_)
    all_goals (first | refine w_lit true rfl rfl rfl ?_ | refine w_lit false rfl rfl rfl ?_ | refine w_cases_od rfl rfl rfl (fun hg => ?_) (fun hg => ?_) | refine w_cases_o rfl rfl rfl (fun hg => ?_) (fun hg => ?_) | skip)
    all_goals (first | refine w_skip rfl ?_ | (refine x_fa rfl (by (conv => lhs; whnf); first | done | rfl) ?_))
    all_goals (first | refine w_skip rfl ?_ | (refine x_ldo rfl (by (conv => lhs; whnf); first | done | rfl) (by first | exact HasC.out | exact PutC.out | repeat (first | exact .here | apply Has.there | apply Put.there | apply Has.app | apply Put.app)) (by (conv => lhs; whnf); first | done | rfl) ?_))
    all_goals (first | refine w_skip rfl ?_ | (refine x_fa rfl (by (conv => lhs; whnf); first | done | rfl) ?_))
    all_goals (first | refine w_skip rfl ?_ | (refine x_ldo rfl (by (conv => lhs; whnf); first | done | rfl) (by first | exact HasC.out | exact PutC.out | repeat (first | exact .here | apply Has.there | apply Put.there | apply Has.app | apply Put.app)) (by (conv => lhs; whnf); first | done | rfl) ?_))
    all_goals (first | refine w_skip rfl ?_ | (refine w_neq rfl (by (conv => lhs; whnf); first | done | rfl) (by (conv => lhs; whnf); first | done | rfl) ?_))
    all_goals (first | refine w_pick_t rfl rfl (by (conv => lhs; whnf); first | done | rfl) ?_ | refine w_pick_f rfl rfl (by (conv => lhs; whnf); first | done | rfl) ?_)
    all_goals (refine w_mov rfl (by (conv => lhs; whnf); first | done | rfl) ?_)
    all_goals (first | refine w_lit true rfl rfl rfl ?_ | refine w_lit false rfl rfl rfl ?_ | refine w_cases_od rfl rfl rfl (fun hg => ?_) (fun hg => ?_) | refine w_cases_o rfl rfl rfl (fun hg => ?_) (fun hg => ?_) | skip)
    all_goals (first | refine w_skip rfl ?_ | (refine x_fa rfl (by (conv => lhs; whnf); first | done | rfl) ?_))
    all_goals (first | refine w_skip rfl ?_ | (refine x_ldao rfl (by (conv => lhs; whnf); first | done | rfl) (by first | exact HasC.out | exact PutC.out | repeat (first | exact .here | apply Has.there | apply Put.there | apply Has.app | apply Put.app)) rfl ?_))
    all_goals (first | refine w_skip rfl ?_ | (refine x_fa rfl (by (conv => lhs; whnf); first | done | rfl) ?_))
    all_goals (first | refine w_skip rfl ?_ | (refine x_ldao rfl (by (conv => lhs; whnf); first | done | rfl) (by first | exact HasC.out | exact PutC.out | repeat (first | exact .here | apply Has.there | apply Put.there | apply Has.app | apply Put.app)) rfl ?_))
    all_goals (first | refine w_skip rfl ?_ | (refine x_neqs ([t.sp, t.sl, t.su]) ([t'.sp, t'.sl, t'.su]) rfl (by (conv => lhs; whnf); first | done | rfl) (by (conv => lhs; whnf); first | done | rfl) rfl rfl ?_))
    all_goals (first | refine w_pick_t rfl rfl (by (conv => lhs; whnf); first | done | rfl) ?_ | refine w_pick_f rfl rfl (by (conv => lhs; whnf); first | done | rfl) ?_)
    all_goals (refine w_mov rfl (by (conv => lhs; whnf); first | done | rfl) ?_)
    all_goals (first | refine w_lit true rfl rfl rfl ?_ | refine w_lit false rfl rfl rfl ?_ | refine w_cases_od rfl rfl rfl (fun hg => ?_) (fun hg => ?_) | refine w_cases_o rfl rfl rfl (fun hg => ?_) (fun hg => ?_) | skip)
    all_goals (first | refine w_skip rfl ?_ | (refine x_fa rfl (by (conv => lhs; whnf); first | done | rfl) ?_))
    all_goals (first | refine w_skip rfl ?_ | (refine x_ldo rfl (by (conv => lhs; whnf); first | done | rfl) (by first | exact HasC.out | exact PutC.out | repeat (first | exact .here | apply Has.there | apply Put.there | apply Has.app | apply Put.app)) (by (conv => lhs; whnf); first | done | rfl) ?_))
    all_goals (first | refine w_skip rfl ?_ | (refine x_fa rfl (by (conv => lhs; whnf); first | done | rfl) ?_))
    all_goals (first | refine w_skip rfl ?_ | (refine x_ldo rfl (by (conv => lhs; whnf); first | done | rfl) (by first | exact HasC.out | exact PutC.out | repeat (first | exact .here | apply Has.there | apply Put.there | apply Has.app | apply Put.app)) (by (conv => lhs; whnf); first | done | rfl) ?_))
    all_goals (first | refine w_skip rfl ?_ | (refine x_callp (by decide) (sameInts_g (hd.sub (List.nil_sublist _)) (hd'.sub (List.nil_sublist _))) rfl rfl rfl ?_))
    all_goals (first | refine w_skip rfl ?_ | (refine w_notd rfl (by (conv => lhs; whnf); first | done | rfl) ?_))
    all_goals (first | refine w_pick_t rfl rfl (by (conv => lhs; whnf); first | done | rfl) ?_ | refine w_pick_f rfl rfl (by (conv => lhs; whnf); first | done | rfl) ?_)
    all_goals (refine w_mov rfl (by (conv => lhs; whnf); first | done | rfl) ?_)
    all_goals (first | refine w_lit true rfl rfl rfl ?_ | refine w_lit false rfl rfl rfl ?_ | refine w_cases_od rfl rfl rfl (fun hg => ?_) (fun hg => ?_) | refine w_cases_o rfl rfl rfl (fun hg => ?_) (fun hg => ?_) | skip)
    all_goals (first | refine w_skip rfl ?_ | (refine x_fa rfl (by (conv => lhs; whnf); first | done | rfl) ?_))
    all_goals (first | refine w_skip rfl ?_ | (refine x_ldo rfl (by (conv => lhs; whnf); first | done | rfl) (by first | exact HasC.out | exact PutC.out | repeat (first | exact .here | apply Has.there | apply Put.there | apply Has.app | apply Put.app)) (by (conv => lhs; whnf); first | done | rfl) ?_))
    all_goals (first | refine w_skip rfl ?_ | (refine x_len rfl (by (conv => lhs; whnf); first | done | rfl) ?_))
    all_goals (first | refine w_skip rfl ?_ | (refine x_fa rfl (by (conv => lhs; whnf); first | done | rfl) ?_))
    all_goals (first | refine w_skip rfl ?_ | (refine x_ldo rfl (by (conv => lhs; whnf); first | done | rfl) (by first | exact HasC.out | exact PutC.out | repeat (first | exact .here | apply Has.there | apply Put.there | apply Has.app | apply Put.app)) (by (conv => lhs; whnf); first | done | rfl) ?_))
    all_goals (first | refine w_skip rfl ?_ | (refine x_len rfl (by (conv => lhs; whnf); first | done | rfl) ?_))
    all_goals (first | refine w_skip rfl ?_ | (refine w_neq rfl (by (conv => lhs; whnf); first | done | rfl) (by (conv => lhs; whnf); first | done | rfl) ?_))
    all_goals (first | refine w_pick_t rfl rfl (by (conv => lhs; whnf); first | done | rfl) ?_ | refine w_pick_f rfl rfl (by (conv => lhs; whnf); first | done | rfl) ?_)
    all_goals (refine w_mov rfl (by (conv => lhs; whnf); first | done | rfl) ?_)
    all_goals (first | refine w_lit true rfl rfl rfl ?_ | refine w_lit false rfl rfl rfl ?_ | refine w_cases_od rfl rfl rfl (fun hg => ?_) (fun hg => ?_) | refine w_cases_o rfl rfl rfl (fun hg => ?_) (fun hg => ?_) | skip)
    all_goals (first | refine w_skip rfl ?_ | (refine x_fa rfl (by (conv => lhs; whnf); first | done | rfl) ?_))
    all_goals (first | refine w_skip rfl ?_ | (refine x_ldo rfl (by (conv => lhs; whnf); first | done | rfl) (by first | exact HasC.out | exact PutC.out | repeat (first | exact .here | apply Has.there | apply Put.there | apply Has.app | apply Put.app)) (by (conv => lhs; whnf); first | done | rfl) ?_))
    all_goals (first | refine w_skip rfl ?_ | (refine x_len rfl (by (conv => lhs; whnf); first | done | rfl) ?_))
    all_goals (first | refine w_skip rfl ?_ | (refine x_fa rfl (by (conv => lhs; whnf); first | done | rfl) ?_))
    all_goals (first | refine w_skip rfl ?_ | (refine x_ldo rfl (by (conv => lhs; whnf); first | done | rfl) (by first | exact HasC.out | exact PutC.out | repeat (first | exact .here | apply Has.there | apply Put.there | apply Has.app | apply Put.app)) (by (conv => lhs; whnf); first | done | rfl) ?_))
    all_goals (first | refine w_skip rfl ?_ | (refine x_len rfl (by (conv => lhs; whnf); first | done | rfl) ?_))
    all_goals (first | refine w_skip rfl ?_ | (refine w_neq rfl (by (conv => lhs; whnf); first | done | rfl) (by (conv => lhs; whnf); first | done | rfl) ?_))
    all_goals (first | refine w_pick_t rfl rfl (by (conv => lhs; whnf); first | done | rfl) ?_ | refine w_pick_f rfl rfl (by (conv => lhs; whnf); first | done | rfl) ?_)
    all_goals (refine w_nil ?_)
    all_goals (refine jn (by first | exact (Ag.upd rfl (Ag.upd rfl (Ag.upd rfl (Ag.upd rfl (Ag.upd rfl (Ag.upd rfl (Ag.upd rfl (Ag.upd rfl (Ag.upd rfl (Ag.upd rfl (Ag.upd rfl (Ag.upd rfl (Ag.upd rfl (Ag.upd rfl (Ag.upd rfl (Ag.upd rfl (Ag.upd rfl (Ag.upd rfl (Ag.upd rfl (Ag.upd rfl (Ag.upd rfl (Ag.upd rfl (Ag.upd rfl (Ag.upd rfl (Ag.upd rfl (Ag.upd rfl (Ag.upd rfl (Ag.upd rfl (Ag.upd rfl (Ag.upd rfl (Ag.upd rfl (Ag.upd rfl (Ag.upd rfl (Ag.upd rfl (Ag.upd rfl (Ag.upd rfl (Ag.upd rfl (Ag.upd rfl (Ag.upd rfl (Ag.upd rfl (Ag.upd rfl (Ag.upd rfl (Ag.upd rfl (Ag.upd rfl (Ag.upd rfl (Ag.upd rfl (Ag.upd rfl (Ag.upd rfl (Ag.upd rfl (Ag.upd rfl (Ag.upd rfl (Ag.upd rfl Ag.refl)))))))))))))))))))))))))))))))))))))))))))))))))))) | exact (by first | ((repeat (first | with_reducible exact Ag.refl | with_reducible exact Ag.ov | (with_reducible refine Ag.upd ?_ ?_; exact rfl) | with_reducible refine Ag.putn ?_ | (with_reducible refine Ag.ovs ?_ ?_; exact rfl))); done) | (repeat (first | exact Ag.refl | exact Ag.ov | (refine Ag.upd ?_ ?_; exact rfl) | refine Ag.putn ?_ | (refine Ag.ovs ?_ ?_; exact rfl))))) (by (conv => lhs; whnf); first | done | rfl) ?_)
    all_goals (exact congrArg Value.bool (by first | (refine Eq.symm (decide_eq_true ?_); exact fun h => hg h.1) | (refine Eq.symm (decide_eq_true ?_); exact fun h => hg h.2.1) | (refine Eq.symm (decide_eq_true ?_); exact fun h => hg h.2.2.1) | (refine Eq.symm (decide_eq_true ?_); exact fun h => hg (by rw [h.2.2.2.1.1, h.2.2.2.1.2.1, h.2.2.2.1.2.2])) | (refine Eq.symm (decide_eq_true ?_); exact fun h => hg h.2.2.2.2.1) | (refine Eq.symm (decide_eq_true ?_); exact fun h => hg (by rw [h.2.2.2.2.2.1])) | (rename_i g1 g2 g3 g4 g5; refine decide_eq_decide.2 ⟨fun h hh => h (by rw [hh.2.2.2.2.2.2]), fun h e => h ⟨by omega, by omega, by omega, by simpa using g4, Decidable.not_not.1 g5, by omega, by omega⟩⟩)))
  refine tq_n ?_
  refine c_cond_d (by (conv => lhs; whnf); first | done | rfl) (fun hc58 => ?_) (fun hc58 => ?_)
  · refine c_seq ?_
    refine c_region ?_
    refine w_asg rfl (by (conv => lhs; whnf); first | done | rfl) ?_
    refine w_nil ?_
    refine tq_n ?_
    refine c_ret ?_
    refine tq_r ?_
    exact rq_r (ra_t (by (conv => lhs; whnf); first | done | rfl) .nil) (List.nil_sublist _) (⟨by rw [decide_eq_false (fun e : t = t' => hc58 (by subst e; exact ⟨rfl, rfl, rfl, ⟨rfl, rfl, rfl⟩, rfl, rfl, rfl⟩))]; rfl, rfl⟩)
  · have hSm : SameHd t t' := Decidable.not_not.1 hc58
    have hha := hSm.2.2.2.2.2.1
    have hlo2 := hSm.2.2.2.2.2.2
    refine c_skip ?_
    refine tq_n ?_
    refine c_seq ?_
    refine c_seq ?_
    refine c_region ?_
    refine w_asg rfl (by (conv => lhs; whnf); first | done | rfl) ?_
    refine w_nil ?_
    refine tq_n ?_
    refine c_block ?_
    refine c_loop_ov [59, 60, 61, 62, 63, 66, 67, 68, 69, 70, 71, 72, 73, 74, 75, 76, 4, 64, 65, 5] (fun m s L => ∃ (k : Nat), k ≤ t.ha.length ∧ t.ha.take k = t'.ha.take k ∧ m = t.ha.length - k ∧ s = [(5, .int .i64 k)] ∧ L = [(b3, B 43 (cT t' Ae ce Ag' cg Am cm)), (b2, B 43 (cT t Ad cd Ah ch Al cl))]) (t.ha.length) [(5, .int .i64 (0 : Nat))] (by repeat (first | exact .nil | refine .cons rfl ?_)) (by first | exact SubL.out | repeat (first | exact List.Sublist.refl _ | exact List.nil_sublist _ | refine .cons_cons _ ?_ | refine .cons _ ?_ | refine List.Sublist.append (List.Sublist.refl _) ?_ | exact List.sublist_append_left _ _ | refine List.Sublist.trans ?_ (List.sublist_append_right _ _))) (⟨0, by omega, by simp, by omega, rfl, rfl⟩) ?_
    rintro mI sI LI gL0 ⟨k, hk, hn, rfl, rfl, rfl⟩
    refine c_seq ?_
    refine c_seq ?_
    refine c_region ?_
    refine w_mov rfl (by (conv => lhs; whnf); first | done | rfl) ?_
    refine x_fa rfl (by (conv => lhs; whnf); first | done | rfl) ?_
    refine x_ldo rfl (by (conv => lhs; whnf); first | done | rfl) (by first | exact HasC.out | exact PutC.out | repeat (first | exact .here | apply Has.there | apply Put.there | apply Has.app | apply Put.app)) (by (conv => lhs; whnf); first | done | rfl) ?_
    refine x_len rfl (by (conv => lhs; whnf); first | done | rfl) ?_
    refine w_lss rfl (by (conv => lhs; whnf); first | done | rfl) (by (conv => lhs; whnf); first | done | rfl) ?_
    refine w_nil ?_
    refine tq_n ?_
    refine c_cond_d (by (conv => lhs; whnf); first | done | rfl) (fun hc63 => ?_) (fun hc63 => ?_)
    · have hlt : k < t.ha.length := (by omega)
      have hlt' : k < t'.ha.length := (by omega)
      refine c_skip ?_
      refine tq_n ?_
      refine c_seq ?_
      refine c_block ?_
      refine c_seq ?_
      refine c_draw mixed (by kernel_rfl) ?_
      refine x_fa rfl (by (conv => lhs; whnf); first | done | rfl) ?_
      refine x_ldo rfl (by (conv => lhs; whnf); first | done | rfl) (by first | exact HasC.out | exact PutC.out | repeat (first | exact .here | apply Has.there | apply Put.there | apply Has.app | apply Put.app)) (by (conv => lhs; whnf); first | done | rfl) ?_
      refine w_mov rfl (by (conv => lhs; whnf); first | done | rfl) ?_
      refine x_ixA rfl (by (conv => lhs; whnf); first | done | rfl) (by (conv => lhs; whnf); first | done | rfl) (hhA (ne_of_lt hlt)) (by omega) (by omega) ?_
      refine x_ld rfl (by (conv => lhs; whnf); first | done | rfl) (rdB (j := (k : Int)) hhR (getN hlt)) ?_
      refine x_fa rfl (by (conv => lhs; whnf); first | done | rfl) ?_
      refine x_ldo rfl (by (conv => lhs; whnf); first | done | rfl) (by first | exact HasC.out | exact PutC.out | repeat (first | exact .here | apply Has.there | apply Put.there | apply Has.app | apply Put.app)) (by (conv => lhs; whnf); first | done | rfl) ?_
      refine w_mov rfl (by (conv => lhs; whnf); first | done | rfl) ?_
      refine x_ixA rfl (by (conv => lhs; whnf); first | done | rfl) (by (conv => lhs; whnf); first | done | rfl) (hhA' (ne_of_lt hlt')) (by omega) (by omega) ?_
      refine x_ld rfl (by (conv => lhs; whnf); first | done | rfl) (rdB (j := (k : Int)) hhR' (getN hlt')) ?_
      refine x_neqb Try.underlying4 rfl (by (conv => lhs; whnf); first | done | rfl) (by (conv => lhs; whnf); first | done | rfl) ?_
      refine w_nil ?_
      refine tq_n ?_
      refine c_cond_d (by (conv => lhs; whnf); first | done | rfl) (fun hc76 => ?_) (fun hc76 => ?_)
      · refine c_seq ?_
        refine c_region ?_
        refine w_asg rfl (by (conv => lhs; whnf); first | done | rfl) ?_
        refine w_nil ?_
        refine tq_n ?_
        refine c_ret ?_
        refine bq_r ?_
        refine tq_r ?_
        refine tq_r ?_
        refine bq_r ?_
        refine tq_r ?_
        exact rq_r (ra_t (by (conv => lhs; whnf); first | done | rfl) .nil) (List.nil_sublist _) (⟨by rw [decide_eq_false (fun e : t = t' => by subst e; exact hc76 rfl)]; rfl, rfl⟩)
      · refine c_skip ?_
        refine bq_n ?_
        refine tq_n ?_
        refine c_region ?_
        refine w_mov rfl (by (conv => lhs; whnf); first | done | rfl) ?_
        refine w_add rfl (by (conv => lhs; whnf); first | done | rfl) (by (conv => lhs; whnf); first | done | rfl) (by omega) ?_
        refine w_asg rfl (by (conv => lhs; whnf); first | done | rfl) ?_
        refine w_nil ?_
        refine tq_n ?_
        exact ⟨(by first | ((repeat (first | with_reducible exact Ag.refl | with_reducible exact Ag.ov | (with_reducible refine Ag.upd ?_ ?_; exact rfl) | with_reducible refine Ag.putn ?_ | (with_reducible refine Ag.ovs ?_ ?_; exact rfl))); done) | (repeat (first | exact Ag.refl | exact Ag.ov | (refine Ag.upd ?_ ?_; exact rfl) | refine Ag.putn ?_ | (refine Ag.ovs ?_ ?_; exact rfl)))), t.ha.length - (k + 1), [(5, .int .i64 ((k + 1 : Nat) : Int))], _, by omega, (by first | exact SubL.out | repeat (first | exact List.Sublist.refl _ | exact List.nil_sublist _ | refine .cons_cons _ ?_ | refine .cons _ ?_ | refine List.Sublist.append (List.Sublist.refl _) ?_ | exact List.sublist_append_left _ _ | refine List.Sublist.trans ?_ (List.sublist_append_right _ _))), (by repeat (first | exact .nil | refine .cons rfl ?_)), ⟨k + 1, by omega, by rw [take_succ' hlt, take_succ' hlt', hn, Decidable.not_not.1 hc76], rfl, rfl, rfl⟩⟩
    · have hheq : t.ha = t'.ha := (by rw [List.take_of_length_le (by omega), List.take_of_length_le (by omega)] at hn; exact hn)
      refine c_exit ?_
      refine tq_e ?_
      refine tq_e ?_
      refine bq_e ?_
      refine tq_n ?_
      refine c_seq ?_
      refine c_seq ?_
      refine c_region ?_
      refine w_asg rfl (by (conv => lhs; whnf); first | done | rfl) ?_
      refine w_nil ?_
      refine tq_n ?_
      refine c_block ?_
      refine c_loop_ov [77, 78, 79, 80, 81, 84, 85, 86, 87, 88, 89, 90, 91, 92, 93, 94, 95, 96, 97, 98, 99, 100, 101, 102, 103, 104, 105, 106, 107, 108, 109, 110, 111, 112, 4, 82, 83, 6] (fun m s L => ∃ (k : Nat), k ≤ t.lo.length ∧ t.lo.take k = t'.lo.take k ∧ m = t.lo.length - k ∧ s = [(6, .int .i64 k)] ∧ L = [(b3, B 43 (cT t' Ae ce Ag' cg Am cm)), (b2, B 43 (cT t Ad cd Ah ch Al cl))]) (t.lo.length) [(6, .int .i64 (0 : Nat))] (by repeat (first | exact .nil | refine .cons rfl ?_)) (by first | exact SubL.out | repeat (first | exact List.Sublist.refl _ | exact List.nil_sublist _ | refine .cons_cons _ ?_ | refine .cons _ ?_ | refine List.Sublist.append (List.Sublist.refl _) ?_ | exact List.sublist_append_left _ _ | refine List.Sublist.trans ?_ (List.sublist_append_right _ _))) (⟨0, by omega, by simp, by omega, rfl, rfl⟩) ?_
      rintro mI sI LI gL1 ⟨k, hk, hn, rfl, rfl, rfl⟩
      refine c_seq ?_
      refine c_seq ?_
      refine c_region ?_
      refine w_mov rfl (by (conv => lhs; whnf); first | done | rfl) ?_
      refine x_fa rfl (by (conv => lhs; whnf); first | done | rfl) ?_
      refine x_ldo rfl (by (conv => lhs; whnf); first | done | rfl) (by first | exact HasC.out | exact PutC.out | repeat (first | exact .here | apply Has.there | apply Put.there | apply Has.app | apply Put.app)) (by (conv => lhs; whnf); first | done | rfl) ?_
      refine x_len rfl (by (conv => lhs; whnf); first | done | rfl) ?_
      refine w_lss rfl (by (conv => lhs; whnf); first | done | rfl) (by (conv => lhs; whnf); first | done | rfl) ?_
      refine w_nil ?_
      refine tq_n ?_
      refine c_cond_d (by (conv => lhs; whnf); first | done | rfl) (fun hc81 => ?_) (fun hc81 => ?_)
      · have hlt : k < t.lo.length := (by omega)
        have hlt' : k < t'.lo.length := (by omega)
        obtain ⟨Ap, cp, hpc, hpl, hpA, hpR, hpI, hph, hpv⟩ := hlR k _ (getN hlt)
        obtain ⟨Ap', cp', hpc', hpl', hpA', hpR', hpI', hph', hpv'⟩ := hlR' k _ (getN hlt')
        refine c_skip ?_
        refine tq_n ?_
        refine c_seq ?_
        refine c_block ?_
        refine c_seq ?_
        refine d_begin_j ((List.Sublist.refl _)) [] mixed [84, 85, 86, 87, 88, 89, 90, 91, 92, 93, 94, 95, 96, 97, 98, 99, 100, 101, 102, 103, 104, 105, 106, 107, 108, 109, 110, 111, 112] 112 (.bool (decide (t.lo[k]'hlt ≠ t'.lo[k]'hlt'))) ?_ (fun g11 => ?_)
        · refine d_tk0 0 np_jn rfl (by kernel_rfl) (by kernel_rfl) (by kernel_rfl) (by kernel_rfl) (.inl (by first | exact SubL.out | repeat (first | exact List.Sublist.refl _ | exact List.nil_sublist _ | refine .cons_cons _ ?_ | refine .cons _ ?_ | refine List.Sublist.append (List.Sublist.refl _) ?_ | exact List.sublist_append_left _ _ | refine List.Sublist.trans ?_ (List.sublist_append_right _ _)))) ?_
          refine x_fa rfl (by (conv => lhs; whnf); first | done | rfl) ?_
          refine w_nil ⟨rfl, rfl, ?_⟩
          refine d_tk 1 np_jn rfl (by kernel_rfl) (by kernel_rfl) (by kernel_rfl) (by kernel_rfl) (by kernel_rfl) (by first | exact SubL.out | repeat (first | exact List.Sublist.refl _ | exact List.nil_sublist _ | refine .cons_cons _ ?_ | refine .cons _ ?_ | refine List.Sublist.append (List.Sublist.refl _) ?_ | exact List.sublist_append_left _ _ | refine List.Sublist.trans ?_ (List.sublist_append_right _ _))) ?_
          refine x_ldo rfl (by (conv => lhs; whnf); first | done | rfl) (by first | exact HasC.out | exact PutC.out | repeat (first | exact .here | apply Has.there | apply Put.there | apply Has.app | apply Put.app)) (by (conv => lhs; whnf); first | done | rfl) ?_
          refine w_nil ⟨rfl, rfl, ?_⟩
          refine d_tk0 2 np_jn rfl (by kernel_rfl) (by kernel_rfl) (by kernel_rfl) (by kernel_rfl) (.inl (by first | exact SubL.out | repeat (first | exact List.Sublist.refl _ | exact List.nil_sublist _ | refine .cons_cons _ ?_ | refine .cons _ ?_ | refine List.Sublist.append (List.Sublist.refl _) ?_ | exact List.sublist_append_left _ _ | refine List.Sublist.trans ?_ (List.sublist_append_right _ _)))) ?_
          refine w_mov rfl (by (conv => lhs; whnf); first | done | rfl) ?_
          refine w_nil ⟨rfl, rfl, ?_⟩
          refine d_tk0 3 np_jn rfl (by kernel_rfl) (by kernel_rfl) (by kernel_rfl) (by kernel_rfl) (.inl (by first | exact SubL.out | repeat (first | exact List.Sublist.refl _ | exact List.nil_sublist _ | refine .cons_cons _ ?_ | refine .cons _ ?_ | refine List.Sublist.append (List.Sublist.refl _) ?_ | exact List.sublist_append_left _ _ | refine List.Sublist.trans ?_ (List.sublist_append_right _ _)))) ?_
          refine x_ixA rfl (by (conv => lhs; whnf); first | done | rfl) (by (conv => lhs; whnf); first | done | rfl) (hlA (ne_of_lt hlt)) (by omega) (by omega) ?_
          refine w_nil ⟨rfl, rfl, ?_⟩
          refine d_tk0 4 np_jn rfl (by kernel_rfl) (by kernel_rfl) (by kernel_rfl) (by kernel_rfl) (.inl (by first | exact SubL.out | repeat (first | exact List.Sublist.refl _ | exact List.nil_sublist _ | refine .cons_cons _ ?_ | refine .cons _ ?_ | refine List.Sublist.append (List.Sublist.refl _) ?_ | exact List.sublist_append_left _ _ | refine List.Sublist.trans ?_ (List.sublist_append_right _ _)))) ?_
          refine x_fa rfl (by (conv => lhs; whnf); first | done | rfl) ?_
          refine w_nil ⟨rfl, rfl, ?_⟩
          refine d_tk 5 np_jn rfl (by kernel_rfl) (by kernel_rfl) (by kernel_rfl) (by kernel_rfl) (by kernel_rfl) (by first | exact SubL.out | repeat (first | exact List.Sublist.refl _ | exact List.nil_sublist _ | refine .cons_cons _ ?_ | refine .cons _ ?_ | refine List.Sublist.append (List.Sublist.refl _) ?_ | exact List.sublist_append_left _ _ | refine List.Sublist.trans ?_ (List.sublist_append_right _ _))) ?_
          refine x_ld rfl (by (conv => lhs; whnf); first | done | rfl) (hph.sub (List.nil_sublist _)) ?_
          refine w_nil ⟨rfl, rfl, ?_⟩
          refine d_tk0 6 np_jn rfl (by kernel_rfl) (by kernel_rfl) (by kernel_rfl) (by kernel_rfl) (.inl (by first | exact SubL.out | repeat (first | exact List.Sublist.refl _ | exact List.nil_sublist _ | refine .cons_cons _ ?_ | refine .cons _ ?_ | refine List.Sublist.append (List.Sublist.refl _) ?_ | exact List.sublist_append_left _ _ | refine List.Sublist.trans ?_ (List.sublist_append_right _ _)))) ?_
          refine x_fa rfl (by (conv => lhs; whnf); first | done | rfl) ?_
          refine w_nil ⟨rfl, rfl, ?_⟩
          refine d_tk 7 np_jn rfl (by kernel_rfl) (by kernel_rfl) (by kernel_rfl) (by kernel_rfl) (by kernel_rfl) (by first | exact SubL.out | repeat (first | exact List.Sublist.refl _ | exact List.nil_sublist _ | refine .cons_cons _ ?_ | refine .cons _ ?_ | refine List.Sublist.append (List.Sublist.refl _) ?_ | exact List.sublist_append_left _ _ | refine List.Sublist.trans ?_ (List.sublist_append_right _ _))) ?_
          refine x_ldo rfl (by (conv => lhs; whnf); first | done | rfl) (by first | exact HasC.out | exact PutC.out | repeat (first | exact .here | apply Has.there | apply Put.there | apply Has.app | apply Put.app)) (by (conv => lhs; whnf); first | done | rfl) ?_
          refine w_nil ⟨rfl, rfl, ?_⟩
          refine d_tk0 8 np_jn rfl (by kernel_rfl) (by kernel_rfl) (by kernel_rfl) (by kernel_rfl) (.inl (by first | exact SubL.out | repeat (first | exact List.Sublist.refl _ | exact List.nil_sublist _ | refine .cons_cons _ ?_ | refine .cons _ ?_ | refine List.Sublist.append (List.Sublist.refl _) ?_ | exact List.sublist_append_left _ _ | refine List.Sublist.trans ?_ (List.sublist_append_right _ _)))) ?_
          refine w_mov rfl (by (conv => lhs; whnf); first | done | rfl) ?_
          refine w_nil ⟨rfl, rfl, ?_⟩
          refine d_tk0 9 np_jn rfl (by kernel_rfl) (by kernel_rfl) (by kernel_rfl) (by kernel_rfl) (.inl (by first | exact SubL.out | repeat (first | exact List.Sublist.refl _ | exact List.nil_sublist _ | refine .cons_cons _ ?_ | refine .cons _ ?_ | refine List.Sublist.append (List.Sublist.refl _) ?_ | exact List.sublist_append_left _ _ | refine List.Sublist.trans ?_ (List.sublist_append_right _ _)))) ?_
          refine x_ixA rfl (by (conv => lhs; whnf); first | done | rfl) (by (conv => lhs; whnf); first | done | rfl) (hlA' (ne_of_lt hlt')) (by omega) (by omega) ?_
          refine w_nil ⟨rfl, rfl, ?_⟩
          refine d_tk0 10 np_jn rfl (by kernel_rfl) (by kernel_rfl) (by kernel_rfl) (by kernel_rfl) (.inl (by first | exact SubL.out | repeat (first | exact List.Sublist.refl _ | exact List.nil_sublist _ | refine .cons_cons _ ?_ | refine .cons _ ?_ | refine List.Sublist.append (List.Sublist.refl _) ?_ | exact List.sublist_append_left _ _ | refine List.Sublist.trans ?_ (List.sublist_append_right _ _)))) ?_
          refine x_fa rfl (by (conv => lhs; whnf); first | done | rfl) ?_
          refine w_nil ⟨rfl, rfl, ?_⟩
          refine d_tk 11 np_jn rfl (by kernel_rfl) (by kernel_rfl) (by kernel_rfl) (by kernel_rfl) (by kernel_rfl) (by first | exact SubL.out | repeat (first | exact List.Sublist.refl _ | exact List.nil_sublist _ | refine .cons_cons _ ?_ | refine .cons _ ?_ | refine List.Sublist.append (List.Sublist.refl _) ?_ | exact List.sublist_append_left _ _ | refine List.Sublist.trans ?_ (List.sublist_append_right _ _))) ?_
          refine x_ld rfl (by (conv => lhs; whnf); first | done | rfl) (hph'.sub (List.nil_sublist _)) ?_
          refine w_nil ⟨rfl, rfl, ?_⟩
          refine d_tk0 12 np_jn rfl (by kernel_rfl) (by kernel_rfl) (by kernel_rfl) (by kernel_rfl) (.inl (by first | exact SubL.out | repeat (first | exact List.Sublist.refl _ | exact List.nil_sublist _ | refine .cons_cons _ ?_ | refine .cons _ ?_ | refine List.Sublist.append (List.Sublist.refl _) ?_ | exact List.sublist_append_left _ _ | refine List.Sublist.trans ?_ (List.sublist_append_right _ _)))) ?_
          refine w_neq rfl (by (conv => lhs; whnf); first | done | rfl) (by (conv => lhs; whnf); first | done | rfl) ?_
          refine w_nil ⟨rfl, rfl, ?_⟩
          refine d_tk0 13 np_jn rfl (by kernel_rfl) (by kernel_rfl) (by kernel_rfl) (by kernel_rfl) (.inl (by first | exact SubL.out | repeat (first | exact List.Sublist.refl _ | exact List.nil_sublist _ | refine .cons_cons _ ?_ | refine .cons _ ?_ | refine List.Sublist.append (List.Sublist.refl _) ?_ | exact List.sublist_append_left _ _ | refine List.Sublist.trans ?_ (List.sublist_append_right _ _)))) ?_
          refine w_mov rfl (by (conv => lhs; whnf); first | done | rfl) ?_
          refine w_nil ⟨rfl, rfl, ?_⟩
          refine d_tk0 14 np_jn rfl (by kernel_rfl) (by kernel_rfl) (by kernel_rfl) (by kernel_rfl) (.inl (by first | exact SubL.out | repeat (first | exact List.Sublist.refl _ | exact List.nil_sublist _ | refine .cons_cons _ ?_ | refine .cons _ ?_ | refine List.Sublist.append (List.Sublist.refl _) ?_ | exact List.sublist_append_left _ _ | refine List.Sublist.trans ?_ (List.sublist_append_right _ _)))) ?_
          refine w_cases_od rfl rfl rfl (fun hg => ?_) (fun hg => ?_)
          · refine w_skip rfl ?_
            refine w_nil ⟨rfl, rfl, ?_⟩
            refine d_tk 15 np_jn rfl (by kernel_rfl) (by kernel_rfl) (by kernel_rfl) (by kernel_rfl) (by kernel_rfl) (by first | exact SubL.out | repeat (first | exact List.Sublist.refl _ | exact List.nil_sublist _ | refine .cons_cons _ ?_ | refine .cons _ ?_ | refine List.Sublist.append (List.Sublist.refl _) ?_ | exact List.sublist_append_left _ _ | refine List.Sublist.trans ?_ (List.sublist_append_right _ _))) ?_
            refine w_skip rfl ?_
            refine w_nil ⟨rfl, rfl, ?_⟩
            refine d_tk0 16 np_jn rfl (by kernel_rfl) (by kernel_rfl) (by kernel_rfl) (by kernel_rfl) (.inl (by first | exact SubL.out | repeat (first | exact List.Sublist.refl _ | exact List.nil_sublist _ | refine .cons_cons _ ?_ | refine .cons _ ?_ | refine List.Sublist.append (List.Sublist.refl _) ?_ | exact List.sublist_append_left _ _ | refine List.Sublist.trans ?_ (List.sublist_append_right _ _)))) ?_
            refine w_skip rfl ?_
            refine w_nil ⟨rfl, rfl, ?_⟩
            refine d_tk0 17 np_jn rfl (by kernel_rfl) (by kernel_rfl) (by kernel_rfl) (by kernel_rfl) (.inl (by first | exact SubL.out | repeat (first | exact List.Sublist.refl _ | exact List.nil_sublist _ | refine .cons_cons _ ?_ | refine .cons _ ?_ | refine List.Sublist.append (List.Sublist.refl _) ?_ | exact List.sublist_append_left _ _ | refine List.Sublist.trans ?_ (List.sublist_append_right _ _)))) ?_
            refine w_skip rfl ?_
            refine w_nil ⟨rfl, rfl, ?_⟩
            refine d_tk0 18 np_jn rfl (by kernel_rfl) (by kernel_rfl) (by kernel_rfl) (by kernel_rfl) (.inl (by first | exact SubL.out | repeat (first | exact List.Sublist.refl _ | exact List.nil_sublist _ | refine .cons_cons _ ?_ | refine .cons _ ?_ | refine List.Sublist.append (List.Sublist.refl _) ?_ | exact List.sublist_append_left _ _ | refine List.Sublist.trans ?_ (List.sublist_append_right _ _)))) ?_
            refine w_skip rfl ?_
            refine w_nil ⟨rfl, rfl, ?_⟩
            refine d_tk 19 np_jn rfl (by kernel_rfl) (by kernel_rfl) (by kernel_rfl) (by kernel_rfl) (by kernel_rfl) (by first | exact SubL.out | repeat (first | exact List.Sublist.refl _ | exact List.nil_sublist _ | refine .cons_cons _ ?_ | refine .cons _ ?_ | refine List.Sublist.append (List.Sublist.refl _) ?_ | exact List.sublist_append_left _ _ | refine List.Sublist.trans ?_ (List.sublist_append_right _ _))) ?_
            refine w_skip rfl ?_
            refine w_nil ⟨rfl, rfl, ?_⟩
            refine d_tk0 20 np_jn rfl (by kernel_rfl) (by kernel_rfl) (by kernel_rfl) (by kernel_rfl) (.inl (by first | exact SubL.out | repeat (first | exact List.Sublist.refl _ | exact List.nil_sublist _ | refine .cons_cons _ ?_ | refine .cons _ ?_ | refine List.Sublist.append (List.Sublist.refl _) ?_ | exact List.sublist_append_left _ _ | refine List.Sublist.trans ?_ (List.sublist_append_right _ _)))) ?_
            refine w_skip rfl ?_
            refine w_nil ⟨rfl, rfl, ?_⟩
            refine d_tk 21 np_jn rfl (by kernel_rfl) (by kernel_rfl) (by kernel_rfl) (by kernel_rfl) (by kernel_rfl) (by first | exact SubL.out | repeat (first | exact List.Sublist.refl _ | exact List.nil_sublist _ | refine .cons_cons _ ?_ | refine .cons _ ?_ | refine List.Sublist.append (List.Sublist.refl _) ?_ | exact List.sublist_append_left _ _ | refine List.Sublist.trans ?_ (List.sublist_append_right _ _))) ?_
            refine w_skip rfl ?_
            refine w_nil ⟨rfl, rfl, ?_⟩
            refine d_tk0 22 np_jn rfl (by kernel_rfl) (by kernel_rfl) (by kernel_rfl) (by kernel_rfl) (.inl (by first | exact SubL.out | repeat (first | exact List.Sublist.refl _ | exact List.nil_sublist _ | refine .cons_cons _ ?_ | refine .cons _ ?_ | refine List.Sublist.append (List.Sublist.refl _) ?_ | exact List.sublist_append_left _ _ | refine List.Sublist.trans ?_ (List.sublist_append_right _ _)))) ?_
            refine w_skip rfl ?_
            refine w_nil ⟨rfl, rfl, ?_⟩
            refine d_tk0 23 np_jn rfl (by kernel_rfl) (by kernel_rfl) (by kernel_rfl) (by kernel_rfl) (.inl (by first | exact SubL.out | repeat (first | exact List.Sublist.refl _ | exact List.nil_sublist _ | refine .cons_cons _ ?_ | refine .cons _ ?_ | refine List.Sublist.append (List.Sublist.refl _) ?_ | exact List.sublist_append_left _ _ | refine List.Sublist.trans ?_ (List.sublist_append_right _ _)))) ?_
            refine w_skip rfl ?_
            refine w_nil ⟨rfl, rfl, ?_⟩
            refine d_tk0 24 np_jn rfl (by kernel_rfl) (by kernel_rfl) (by kernel_rfl) (by kernel_rfl) (.inl (by first | exact SubL.out | repeat (first | exact List.Sublist.refl _ | exact List.nil_sublist _ | refine .cons_cons _ ?_ | refine .cons _ ?_ | refine List.Sublist.append (List.Sublist.refl _) ?_ | exact List.sublist_append_left _ _ | refine List.Sublist.trans ?_ (List.sublist_append_right _ _)))) ?_
            refine w_skip rfl ?_
            refine w_nil ⟨rfl, rfl, ?_⟩
            refine d_tk 25 np_jn rfl (by kernel_rfl) (by kernel_rfl) (by kernel_rfl) (by kernel_rfl) (by kernel_rfl) (by first | exact SubL.out | repeat (first | exact List.Sublist.refl _ | exact List.nil_sublist _ | refine .cons_cons _ ?_ | refine .cons _ ?_ | refine List.Sublist.append (List.Sublist.refl _) ?_ | exact List.sublist_append_left _ _ | refine List.Sublist.trans ?_ (List.sublist_append_right _ _))) ?_
            refine w_skip rfl ?_
            refine w_nil ⟨rfl, rfl, ?_⟩
            refine d_one 26 rfl (by kernel_rfl) ?_
            refine w_skip rfl ?_
            refine w_nil ⟨rfl, (.inl (by first | exact SubL.out | repeat (first | exact List.Sublist.refl _ | exact List.nil_sublist _ | refine .cons_cons _ ?_ | refine .cons _ ?_ | refine List.Sublist.append (List.Sublist.refl _) ?_ | exact List.sublist_append_left _ _ | refine List.Sublist.trans ?_ (List.sublist_append_right _ _)))), ?_⟩
            refine d_tk0 27 np_jn rfl (by kernel_rfl) (by kernel_rfl) (by kernel_rfl) (by kernel_rfl) (.inl (by first | exact SubL.out | repeat (first | exact List.Sublist.refl _ | exact List.nil_sublist _ | refine .cons_cons _ ?_ | refine .cons _ ?_ | refine List.Sublist.append (List.Sublist.refl _) ?_ | exact List.sublist_append_left _ _ | refine List.Sublist.trans ?_ (List.sublist_append_right _ _)))) ?_
            refine w_skip rfl ?_
            refine w_nil ⟨rfl, rfl, ?_⟩
            refine d_tk0 28 np_jn rfl (by kernel_rfl) (by kernel_rfl) (by kernel_rfl) (by kernel_rfl) (.inl (by first | exact SubL.out | repeat (first | exact List.Sublist.refl _ | exact List.nil_sublist _ | refine .cons_cons _ ?_ | refine .cons _ ?_ | refine List.Sublist.append (List.Sublist.refl _) ?_ | exact List.sublist_append_left _ _ | refine List.Sublist.trans ?_ (List.sublist_append_right _ _)))) ?_
            first | refine w_pick_t rfl rfl (by (conv => lhs; whnf); first | done | rfl) ?_ | refine w_pick_f rfl rfl (by (conv => lhs; whnf); first | done | rfl) ?_
            refine w_nil ⟨rfl, rfl, ?_⟩
            refine d_done (by kernel_rfl) ?_
            refine jn (by first | ((repeat (first | with_reducible exact Ag.refl | with_reducible exact Ag.ov | (with_reducible refine Ag.upd ?_ ?_; exact rfl) | with_reducible refine Ag.putn ?_ | (with_reducible refine Ag.ovs ?_ ?_; exact rfl))); done) | (repeat (first | exact Ag.refl | exact Ag.ov | (refine Ag.upd ?_ ?_; exact rfl) | refine Ag.putn ?_ | (refine Ag.ovs ?_ ?_; exact rfl)))) (by (conv => lhs; whnf); first | done | rfl) ?_
            exact congrArg Value.bool (by first | (refine Eq.symm (decide_eq_true ?_); exact fun h => hg (by rw [h])) | exact decide_eq_decide.2 ⟨fun h e => h (by rw [e]), fun h e => h (lg_ext (Decidable.not_not.1 hg) e)⟩)
          · refine x_fa rfl (by (conv => lhs; whnf); first | done | rfl) ?_
            refine w_nil ⟨rfl, rfl, ?_⟩
            refine d_tk 15 np_jn rfl (by kernel_rfl) (by kernel_rfl) (by kernel_rfl) (by kernel_rfl) (by kernel_rfl) (by first | exact SubL.out | repeat (first | exact List.Sublist.refl _ | exact List.nil_sublist _ | refine .cons_cons _ ?_ | refine .cons _ ?_ | refine List.Sublist.append (List.Sublist.refl _) ?_ | exact List.sublist_append_left _ _ | refine List.Sublist.trans ?_ (List.sublist_append_right _ _))) ?_
            refine x_ldo rfl (by (conv => lhs; whnf); first | done | rfl) (by first | exact HasC.out | exact PutC.out | repeat (first | exact .here | apply Has.there | apply Put.there | apply Has.app | apply Put.app)) (by (conv => lhs; whnf); first | done | rfl) ?_
            refine w_nil ⟨rfl, rfl, ?_⟩
            refine d_tk0 16 np_jn rfl (by kernel_rfl) (by kernel_rfl) (by kernel_rfl) (by kernel_rfl) (.inl (by first | exact SubL.out | repeat (first | exact List.Sublist.refl _ | exact List.nil_sublist _ | refine .cons_cons _ ?_ | refine .cons _ ?_ | refine List.Sublist.append (List.Sublist.refl _) ?_ | exact List.sublist_append_left _ _ | refine List.Sublist.trans ?_ (List.sublist_append_right _ _)))) ?_
            refine w_mov rfl (by (conv => lhs; whnf); first | done | rfl) ?_
            refine w_nil ⟨rfl, rfl, ?_⟩
            refine d_tk0 17 np_jn rfl (by kernel_rfl) (by kernel_rfl) (by kernel_rfl) (by kernel_rfl) (.inl (by first | exact SubL.out | repeat (first | exact List.Sublist.refl _ | exact List.nil_sublist _ | refine .cons_cons _ ?_ | refine .cons _ ?_ | refine List.Sublist.append (List.Sublist.refl _) ?_ | exact List.sublist_append_left _ _ | refine List.Sublist.trans ?_ (List.sublist_append_right _ _)))) ?_
            refine x_ixA rfl (by (conv => lhs; whnf); first | done | rfl) (by (conv => lhs; whnf); first | done | rfl) (hlA (ne_of_lt hlt)) (by omega) (by omega) ?_
            refine w_nil ⟨rfl, rfl, ?_⟩
            refine d_tk0 18 np_jn rfl (by kernel_rfl) (by kernel_rfl) (by kernel_rfl) (by kernel_rfl) (.inl (by first | exact SubL.out | repeat (first | exact List.Sublist.refl _ | exact List.nil_sublist _ | refine .cons_cons _ ?_ | refine .cons _ ?_ | refine List.Sublist.append (List.Sublist.refl _) ?_ | exact List.sublist_append_left _ _ | refine List.Sublist.trans ?_ (List.sublist_append_right _ _)))) ?_
            refine x_fa rfl (by (conv => lhs; whnf); first | done | rfl) ?_
            refine w_nil ⟨rfl, rfl, ?_⟩
            refine d_tk 19 np_jn rfl (by kernel_rfl) (by kernel_rfl) (by kernel_rfl) (by kernel_rfl) (by kernel_rfl) (by first | exact SubL.out | repeat (first | exact List.Sublist.refl _ | exact List.nil_sublist _ | refine .cons_cons _ ?_ | refine .cons _ ?_ | refine List.Sublist.append (List.Sublist.refl _) ?_ | exact List.sublist_append_left _ _ | refine List.Sublist.trans ?_ (List.sublist_append_right _ _))) ?_
            refine x_ld rfl (by (conv => lhs; whnf); first | done | rfl) (hpv.sub (List.nil_sublist _)) ?_
            refine w_nil ⟨rfl, rfl, ?_⟩
            refine d_tk0 20 np_jn rfl (by kernel_rfl) (by kernel_rfl) (by kernel_rfl) (by kernel_rfl) (.inl (by first | exact SubL.out | repeat (first | exact List.Sublist.refl _ | exact List.nil_sublist _ | refine .cons_cons _ ?_ | refine .cons _ ?_ | refine List.Sublist.append (List.Sublist.refl _) ?_ | exact List.sublist_append_left _ _ | refine List.Sublist.trans ?_ (List.sublist_append_right _ _)))) ?_
            refine x_fa rfl (by (conv => lhs; whnf); first | done | rfl) ?_
            refine w_nil ⟨rfl, rfl, ?_⟩
            refine d_tk 21 np_jn rfl (by kernel_rfl) (by kernel_rfl) (by kernel_rfl) (by kernel_rfl) (by kernel_rfl) (by first | exact SubL.out | repeat (first | exact List.Sublist.refl _ | exact List.nil_sublist _ | refine .cons_cons _ ?_ | refine .cons _ ?_ | refine List.Sublist.append (List.Sublist.refl _) ?_ | exact List.sublist_append_left _ _ | refine List.Sublist.trans ?_ (List.sublist_append_right _ _))) ?_
            refine x_ldo rfl (by (conv => lhs; whnf); first | done | rfl) (by first | exact HasC.out | exact PutC.out | repeat (first | exact .here | apply Has.there | apply Put.there | apply Has.app | apply Put.app)) (by (conv => lhs; whnf); first | done | rfl) ?_
            refine w_nil ⟨rfl, rfl, ?_⟩
            refine d_tk0 22 np_jn rfl (by kernel_rfl) (by kernel_rfl) (by kernel_rfl) (by kernel_rfl) (.inl (by first | exact SubL.out | repeat (first | exact List.Sublist.refl _ | exact List.nil_sublist _ | refine .cons_cons _ ?_ | refine .cons _ ?_ | refine List.Sublist.append (List.Sublist.refl _) ?_ | exact List.sublist_append_left _ _ | refine List.Sublist.trans ?_ (List.sublist_append_right _ _)))) ?_
            refine w_mov rfl (by (conv => lhs; whnf); first | done | rfl) ?_
            refine w_nil ⟨rfl, rfl, ?_⟩
            refine d_tk0 23 np_jn rfl (by kernel_rfl) (by kernel_rfl) (by kernel_rfl) (by kernel_rfl) (.inl (by first | exact SubL.out | repeat (first | exact List.Sublist.refl _ | exact List.nil_sublist _ | refine .cons_cons _ ?_ | refine .cons _ ?_ | refine List.Sublist.append (List.Sublist.refl _) ?_ | exact List.sublist_append_left _ _ | refine List.Sublist.trans ?_ (List.sublist_append_right _ _)))) ?_
            refine x_ixA rfl (by (conv => lhs; whnf); first | done | rfl) (by (conv => lhs; whnf); first | done | rfl) (hlA' (ne_of_lt hlt')) (by omega) (by omega) ?_
            refine w_nil ⟨rfl, rfl, ?_⟩
            refine d_tk0 24 np_jn rfl (by kernel_rfl) (by kernel_rfl) (by kernel_rfl) (by kernel_rfl) (.inl (by first | exact SubL.out | repeat (first | exact List.Sublist.refl _ | exact List.nil_sublist _ | refine .cons_cons _ ?_ | refine .cons _ ?_ | refine List.Sublist.append (List.Sublist.refl _) ?_ | exact List.sublist_append_left _ _ | refine List.Sublist.trans ?_ (List.sublist_append_right _ _)))) ?_
            refine x_fa rfl (by (conv => lhs; whnf); first | done | rfl) ?_
            refine w_nil ⟨rfl, rfl, ?_⟩
            refine d_tk 25 np_jn rfl (by kernel_rfl) (by kernel_rfl) (by kernel_rfl) (by kernel_rfl) (by kernel_rfl) (by first | exact SubL.out | repeat (first | exact List.Sublist.refl _ | exact List.nil_sublist _ | refine .cons_cons _ ?_ | refine .cons _ ?_ | refine List.Sublist.append (List.Sublist.refl _) ?_ | exact List.sublist_append_left _ _ | refine List.Sublist.trans ?_ (List.sublist_append_right _ _))) ?_
            refine x_ld rfl (by (conv => lhs; whnf); first | done | rfl) (hpv'.sub (List.nil_sublist _)) ?_
            refine w_nil ⟨rfl, rfl, ?_⟩
            refine d_one 26 rfl (by kernel_rfl) ?_
            refine x_callp (by decide) (sameInts_g (hpI.sub (List.nil_sublist _)) (hpI'.sub (List.nil_sublist _))) rfl rfl rfl ?_
            refine w_nil ⟨rfl, (.inl (by first | exact SubL.out | repeat (first | exact List.Sublist.refl _ | exact List.nil_sublist _ | refine .cons_cons _ ?_ | refine .cons _ ?_ | refine List.Sublist.append (List.Sublist.refl _) ?_ | exact List.sublist_append_left _ _ | refine List.Sublist.trans ?_ (List.sublist_append_right _ _)))), ?_⟩
            refine d_tk0 27 np_jn rfl (by kernel_rfl) (by kernel_rfl) (by kernel_rfl) (by kernel_rfl) (.inl (by first | exact SubL.out | repeat (first | exact List.Sublist.refl _ | exact List.nil_sublist _ | refine .cons_cons _ ?_ | refine .cons _ ?_ | refine List.Sublist.append (List.Sublist.refl _) ?_ | exact List.sublist_append_left _ _ | refine List.Sublist.trans ?_ (List.sublist_append_right _ _)))) ?_
            refine w_notd rfl (by (conv => lhs; whnf); first | done | rfl) ?_
            refine w_nil ⟨rfl, rfl, ?_⟩
            refine d_tk0 28 np_jn rfl (by kernel_rfl) (by kernel_rfl) (by kernel_rfl) (by kernel_rfl) (.inl (by first | exact SubL.out | repeat (first | exact List.Sublist.refl _ | exact List.nil_sublist _ | refine .cons_cons _ ?_ | refine .cons _ ?_ | refine List.Sublist.append (List.Sublist.refl _) ?_ | exact List.sublist_append_left _ _ | refine List.Sublist.trans ?_ (List.sublist_append_right _ _)))) ?_
            first | refine w_pick_t rfl rfl (by (conv => lhs; whnf); first | done | rfl) ?_ | refine w_pick_f rfl rfl (by (conv => lhs; whnf); first | done | rfl) ?_
            refine w_nil ⟨rfl, rfl, ?_⟩
            refine d_done (by kernel_rfl) ?_
            refine jn (by first | ((repeat (first | with_reducible exact Ag.refl | with_reducible exact Ag.ov | (with_reducible refine Ag.upd ?_ ?_; exact rfl) | with_reducible refine Ag.putn ?_ | (with_reducible refine Ag.ovs ?_ ?_; exact rfl))); done) | (repeat (first | exact Ag.refl | exact Ag.ov | (refine Ag.upd ?_ ?_; exact rfl) | refine Ag.putn ?_ | (refine Ag.ovs ?_ ?_; exact rfl)))) (by (conv => lhs; whnf); first | done | rfl) ?_
            exact congrArg Value.bool (by first | (refine Eq.symm (decide_eq_true ?_); exact fun h => hg (by rw [h])) | exact decide_eq_decide.2 ⟨fun h e => h (by rw [e]), fun h e => h (lg_ext (Decidable.not_not.1 hg) e)⟩)
        refine tq_n ?_
        refine c_cond_d (by (conv => lhs; whnf); first | done | rfl) (fun hc112 => ?_) (fun hc112 => ?_)
        · refine c_seq ?_
          refine c_region ?_
          refine w_asg rfl (by (conv => lhs; whnf); first | done | rfl) ?_
          refine w_nil ?_
          refine tq_n ?_
          refine c_ret ?_
          refine bq_r ?_
          refine tq_r ?_
          refine tq_r ?_
          refine bq_r ?_
          refine tq_r ?_
          exact rq_r (ra_t (by (conv => lhs; whnf); first | done | rfl) .nil) (List.nil_sublist _) (⟨by rw [decide_eq_false (fun e : t = t' => by subst e; exact hc112 rfl)]; rfl, rfl⟩)
        · refine c_skip ?_
          refine bq_n ?_
          refine tq_n ?_
          refine c_region ?_
          refine w_mov rfl (by (conv => lhs; whnf); first | done | rfl) ?_
          refine w_add rfl (by (conv => lhs; whnf); first | done | rfl) (by (conv => lhs; whnf); first | done | rfl) (by omega) ?_
          refine w_asg rfl (by (conv => lhs; whnf); first | done | rfl) ?_
          refine w_nil ?_
          refine tq_n ?_
          exact ⟨(by first | ((repeat (first | with_reducible exact Ag.refl | with_reducible exact Ag.ov | (with_reducible refine Ag.upd ?_ ?_; exact rfl) | with_reducible refine Ag.putn ?_ | (with_reducible refine Ag.ovs ?_ ?_; exact rfl))); done) | (repeat (first | exact Ag.refl | exact Ag.ov | (refine Ag.upd ?_ ?_; exact rfl) | refine Ag.putn ?_ | (refine Ag.ovs ?_ ?_; exact rfl)))), t.lo.length - (k + 1), [(6, .int .i64 ((k + 1 : Nat) : Int))], _, by omega, (by first | exact SubL.out | repeat (first | exact List.Sublist.refl _ | exact List.nil_sublist _ | refine .cons_cons _ ?_ | refine .cons _ ?_ | refine List.Sublist.append (List.Sublist.refl _) ?_ | exact List.sublist_append_left _ _ | refine List.Sublist.trans ?_ (List.sublist_append_right _ _))), (by repeat (first | exact .nil | refine .cons rfl ?_)), ⟨k + 1, by omega, by rw [take_succ' hlt, take_succ' hlt', hn, Decidable.not_not.1 hc112], rfl, rfl, rfl⟩⟩
      · have hleq : t.lo = t'.lo := (by rw [List.take_of_length_le (by omega), List.take_of_length_le (by omega)] at hn; exact hn)
        refine c_exit ?_
        refine tq_e ?_
        refine tq_e ?_
        refine bq_e ?_
        refine tq_n ?_
        refine c_seq ?_
        refine c_region ?_
        refine w_asg rfl (by (conv => lhs; whnf); first | done | rfl) ?_
        refine w_nil ?_
        refine tq_n ?_
        refine c_ret ?_
        exact rq_r (ra_t (by (conv => lhs; whnf); first | done | rfl) .nil) (List.nil_sublist _) (⟨by rw [decide_eq_true (tb_ext hSm hheq hleq)]; rfl, rfl⟩)
end
end Go.Proofs.Ytnmhhelcaibdoaa.Pl
