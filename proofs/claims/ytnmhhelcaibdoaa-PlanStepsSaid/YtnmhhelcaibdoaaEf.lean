/- The reference's Open, Put, Skip, Dropped: they answer what plan's do. -/
import Derived.Test.YtnmhhelcaibdoaaEe
namespace Go.Proofs.Ytnmhhelcaibdoaa.Pl
open Go Go.RowKit Sl
set_option linter.unusedVariables false
set_option linter.unusedSimpArgs false
section
variable {w0 : World} {L : Own}
theorem openr_g {v : Value} {t : Tb} {k b x : Int} (h : TabR w0 L v t) : Gives Try.prog w0 L 21 [v, .agg #[.int .i64 k, .int .i64 b], .int .i64 x] (fun v' L' => ∃ S, L' = S ++ L ∧ OpR (opn t k b x) v' S) := by
  refine enterB (R := OpR (opn t k b x)) Try.func21 rfl Try.ntmps21 Try.results21 (Nat.le_of_ble_eq_true rfl) fun w hM => ?_
  have hT := h.at hM
  obtain ⟨vd, vh, vl, rfl, hd, hh, hlo⟩ := ((h).at hM).ex; obtain ⟨Ad, cd, rfl, hdc, hdl, hdA, hdR⟩ := id hd.ex; obtain ⟨Ah, ch, rfl, hhc, hhl, hhA, hhR⟩ := id hh.ex; obtain ⟨Al, cl, rfl, hlc, hll, hlA, hlR⟩ := LogR.opn hlo
  clear hM
  refine c_seq ?_
  refine c_region ?_
  refine x_boxa rfl (by (conv => lhs; whnf); first | done | rfl) ?_
  intro b3
  refine x_boxa rfl (by (conv => lhs; whnf); first | done | rfl) ?_
  intro b4
  refine x_al rfl ?_
  intro b6
  refine w_asg rfl (by (conv => lhs; whnf); first | done | rfl) ?_
  refine w_nil ?_
  refine tq_n ?_
  refine c_seq ?_
  refine c_seq ?_
  refine c_region ?_
  refine x_ldao rfl (by (conv => lhs; whnf); first | done | rfl) (by first | exact HasC.out | exact PutC.out | repeat (first | exact .here | apply Has.there | apply Put.there | apply Has.app | apply Put.app)) rfl ?_
  refine x_callp (by decide) (checkr_g (hT.sub (List.nil_sublist _))) rfl rfl rfl ?_
  refine w_asg rfl (by (conv => lhs; whnf); first | done | rfl) ?_
  refine w_nil ?_
  refine tq_n ?_
  refine c_seq ?_
  refine c_region ?_
  refine w_mov rfl (by (conv => lhs; whnf); first | done | rfl) ?_
  refine w_neq rfl (by (conv => lhs; whnf); first | done | rfl) (by (conv => lhs; whnf); first | done | rfl) ?_
  refine w_nil ?_
  refine tq_n ?_
  refine c_cond_d (by (conv => lhs; whnf); first | done | rfl) (fun hc13 => ?_) (fun hc13 => ?_)
  · have hm : ¬ May t := fun hm => hc13 (if_pos hm)
    refine c_seq ?_
    refine c_region ?_
    refine x_bld rfl .nil rfl ?_
    refine w_mov rfl (by (conv => lhs; whnf); first | done | rfl) ?_
    refine x_stw rfl (by (conv => lhs; whnf); first | done | rfl) (by (conv => lhs; whnf); first | done | rfl) rfl rfl (by first | exact HasC.out | exact PutC.out | repeat (first | exact .here | apply Has.there | apply Put.there | apply Has.app | apply Put.app)) rfl ?_
    refine w_asg rfl (by (conv => lhs; whnf); first | done | rfl) ?_
    refine w_nil ?_
    refine tq_n ?_
    refine c_ret ?_
    refine tq_r ?_
    exact rq_r (ra_c (by (conv => lhs; whnf); first | done | rfl) (by first | exact HasC.out | exact PutC.out | repeat (first | exact .here | apply Has.there | apply Put.there | apply Has.app | apply Put.app)) rfl (ra_t (by (conv => lhs; whnf); first | done | rfl) .nil)) (by first | exact SubL.out | repeat (first | exact List.Sublist.refl _ | exact List.nil_sublist _ | refine .cons_cons _ ?_ | refine .cons _ ?_ | refine List.Sublist.append (List.Sublist.refl _) ?_ | exact List.sublist_append_left _ _ | refine List.Sublist.trans ?_ (List.sublist_append_right _ _))) (OpR_inl (e := 50) (by unfold opn; simp only [if_neg hm]) (by simp only [if_neg hm]; rfl))
  · have hm : May t := Decidable.byContradiction fun hm => hc13 (by rw [if_neg hm]; decide)
    have hLi := hm.1
    have hcl := hLi.cl
    have hG := hLi.1.1.2.1
    have hK := hLi.1.1.2.2
    refine c_skip ?_
    refine tq_n ?_
    refine c_seq ?_
    refine c_seq ?_
    refine c_region ?_
    refine x_ldao rfl (by (conv => lhs; whnf); first | done | rfl) (by first | exact HasC.out | exact PutC.out | repeat (first | exact .here | apply Has.there | apply Put.there | apply Has.app | apply Put.app)) rfl ?_
    refine w_mov rfl (by (conv => lhs; whnf); first | done | rfl) ?_
    refine x_callp (by decide) (freshr_g (hT.sub (List.nil_sublist _)) hm) rfl rfl rfl ?_
    refine w_notd rfl (by (conv => lhs; whnf); first | done | rfl) ?_
    refine w_nil ?_
    refine tq_n ?_
    refine c_cond_d (by (conv => lhs; whnf); first | done | rfl) (fun hc19 => ?_) (fun hc19 => ?_)
    · refine c_seq ?_
      refine c_region ?_
      refine x_bld rfl .nil rfl ?_
      refine x_stw rfl (by (conv => lhs; whnf); first | done | rfl) (by (conv => lhs; whnf); first | done | rfl) rfl rfl (by first | exact HasC.out | exact PutC.out | repeat (first | exact .here | apply Has.there | apply Put.there | apply Has.app | apply Put.app)) rfl ?_
      refine w_asg rfl (by (conv => lhs; whnf); first | done | rfl) ?_
      refine w_nil ?_
      refine tq_n ?_
      refine c_ret ?_
      refine tq_r ?_
      exact rq_r (ra_c (by (conv => lhs; whnf); first | done | rfl) (by first | exact HasC.out | exact PutC.out | repeat (first | exact .here | apply Has.there | apply Put.there | apply Has.app | apply Put.app)) rfl (ra_t (by (conv => lhs; whnf); first | done | rfl) .nil)) (by first | exact SubL.out | repeat (first | exact List.Sublist.refl _ | exact List.nil_sublist _ | refine .cons_cons _ ?_ | refine .cons _ ?_ | refine List.Sublist.append (List.Sublist.refl _) ?_ | exact List.sublist_append_left _ _ | refine List.Sublist.trans ?_ (List.sublist_append_right _ _))) (OpR_inl (e := 1) (by unfold opn; simp only [if_pos hm, if_neg hc19]) rfl)
    · have hfr := Decidable.not_not.1 hc19
      have hop : opn t k b x = opnA t k b x := (by unfold opn; simp only [if_pos hm, if_pos hfr])
      refine c_skip ?_
      refine tq_n ?_
      refine c_seq ?_
      refine c_region ?_
      refine x_ldao rfl (by (conv => lhs; whnf); first | done | rfl) (by first | exact HasC.out | exact PutC.out | repeat (first | exact .here | apply Has.there | apply Put.there | apply Has.app | apply Put.app)) rfl ?_
      refine x_call (clonr_g (hT.sub (List.nil_sublist _)) hcl.b) rfl rfl rfl ?_
      rintro _ _ ⟨S, rfl, Sv, Sp, Sd, Sh, rfl, vd2, vh2, vl2, lv, rfl, g1, g2, g3, g4⟩
      obtain ⟨Ad2, cd2, rfl, _⟩ := g1.form
      obtain ⟨Ah2, ch2, rfl, _⟩ := g2.form
      obtain ⟨Al2, cl2, rfl, hcl2, hAl, hRl⟩ := logs_opn g3 g4.len hcl.2.2.1
      simp only [List.append_assoc]
      refine x_al rfl ?_
      intro b9
      refine x_stw rfl (by (conv => lhs; whnf); first | done | rfl) (by (conv => lhs; whnf); first | done | rfl) rfl rfl (by first | exact HasC.out | exact PutC.out | repeat (first | exact .here | apply Has.there | apply Put.there | apply Has.app | apply Put.app)) rfl ?_
      refine w_nil ?_
      refine tq_n ?_
      refine c_seq ?_
      refine c_seq ?_
      refine c_region_j [23, 24, 25, 26, 27, 28, 29, 30, 31, 32, 33, 34, 35, 36, 37, 38, 39, 40, 41, 42, 43] 43 (.bool (decide (opnSq t k b))) ?_ (fun g7 => ?_)
      · all_goals (refine x_fa rfl (by (conv => lhs; whnf); first | done | rfl) ?_)
        all_goals (refine x_ldo rfl (by (conv => lhs; whnf); first | done | rfl) (by first | exact HasC.out | exact PutC.out | repeat (first | exact .here | apply Has.there | apply Put.there | apply Has.app | apply Put.app)) (by (conv => lhs; whnf); first | done | rfl) ?_)
        all_goals (refine w_eql rfl (by (conv => lhs; whnf); first | done | rfl) (by (conv => lhs; whnf); first | done | rfl) ?_)
        all_goals (refine w_mov rfl (by (conv => lhs; whnf); first | done | rfl) ?_)
        all_goals (first | refine w_lit true rfl rfl rfl ?_ | refine w_lit false rfl rfl rfl ?_ | refine w_cases_od rfl rfl rfl (fun hg => ?_) (fun hg => ?_) | refine w_cases_o rfl rfl rfl (fun hg => ?_) (fun hg => ?_) | skip)
        all_goals (first | refine w_skip rfl ?_ | (refine x_fa rfl (by (conv => lhs; whnf); first | done | rfl) ?_))
        all_goals (first | refine w_skip rfl ?_ | (refine x_fa rfl (by (conv => lhs; whnf); first | done | rfl) ?_))
        all_goals (first | refine w_skip rfl ?_ | (refine x_ldo rfl (by (conv => lhs; whnf); first | done | rfl) (by first | exact HasC.out | exact PutC.out | repeat (first | exact .here | apply Has.there | apply Put.there | apply Has.app | apply Put.app)) (by (conv => lhs; whnf); first | done | rfl) ?_))
        all_goals (first | refine w_skip rfl ?_ | (refine w_lss rfl (by (conv => lhs; whnf); first | done | rfl) (by (conv => lhs; whnf); first | done | rfl) ?_))
        all_goals (first | refine w_pick_t rfl rfl (by (conv => lhs; whnf); first | done | rfl) ?_ | refine w_pick_f rfl rfl (by (conv => lhs; whnf); first | done | rfl) ?_)
        all_goals (refine w_mov rfl (by (conv => lhs; whnf); first | done | rfl) ?_)
        all_goals (first | refine w_lit true rfl rfl rfl ?_ | refine w_lit false rfl rfl rfl ?_ | refine w_cases_od rfl rfl rfl (fun hg => ?_) (fun hg => ?_) | refine w_cases_o rfl rfl rfl (fun hg => ?_) (fun hg => ?_) | skip)
        all_goals (first | refine w_skip rfl ?_ | (refine x_fa rfl (by (conv => lhs; whnf); first | done | rfl) ?_))
        all_goals (first | refine w_skip rfl ?_ | (refine x_ldo rfl (by (conv => lhs; whnf); first | done | rfl) (by first | exact HasC.out | exact PutC.out | repeat (first | exact .here | apply Has.there | apply Put.there | apply Has.app | apply Put.app)) (by (conv => lhs; whnf); first | done | rfl) ?_))
        all_goals (first | refine w_skip rfl ?_ | (refine w_geq rfl (by (conv => lhs; whnf); first | done | rfl) (by (conv => lhs; whnf); first | done | rfl) ?_))
        all_goals (first | refine w_pick_t rfl rfl (by (conv => lhs; whnf); first | done | rfl) ?_ | refine w_pick_f rfl rfl (by (conv => lhs; whnf); first | done | rfl) ?_)
        all_goals (refine w_mov rfl (by (conv => lhs; whnf); first | done | rfl) ?_)
        all_goals (first | refine w_lit true rfl rfl rfl ?_ | refine w_lit false rfl rfl rfl ?_ | refine w_cases_od rfl rfl rfl (fun hg => ?_) (fun hg => ?_) | refine w_cases_o rfl rfl rfl (fun hg => ?_) (fun hg => ?_) | skip)
        all_goals (first | refine w_skip rfl ?_ | (refine x_fa rfl (by (conv => lhs; whnf); first | done | rfl) ?_))
        all_goals (first | refine w_skip rfl ?_ | (refine x_ldo rfl (by (conv => lhs; whnf); first | done | rfl) (by first | exact HasC.out | exact PutC.out | repeat (first | exact .here | apply Has.there | apply Put.there | apply Has.app | apply Put.app)) (by (conv => lhs; whnf); first | done | rfl) ?_))
        all_goals (first | refine w_skip rfl ?_ | (refine x_fa rfl (by (conv => lhs; whnf); first | done | rfl) ?_))
        all_goals (first | refine w_skip rfl ?_ | (refine x_ldo rfl (by (conv => lhs; whnf); first | done | rfl) (by first | exact HasC.out | exact PutC.out | repeat (first | exact .here | apply Has.there | apply Put.there | apply Has.app | apply Put.app)) (by (conv => lhs; whnf); first | done | rfl) ?_))
        all_goals (first | refine w_skip rfl ?_ | (refine w_lss rfl (by (conv => lhs; whnf); first | done | rfl) (by (conv => lhs; whnf); first | done | rfl) ?_))
        all_goals (first | refine w_pick_t rfl rfl (by (conv => lhs; whnf); first | done | rfl) ?_ | refine w_pick_f rfl rfl (by (conv => lhs; whnf); first | done | rfl) ?_)
        all_goals (refine w_nil ?_)
        all_goals (refine jn (by first | exact (Ag.upd rfl (Ag.upd rfl (Ag.upd rfl (Ag.upd rfl (Ag.upd rfl (Ag.upd rfl (Ag.upd rfl (Ag.upd rfl (Ag.upd rfl (Ag.upd rfl (Ag.upd rfl (Ag.upd rfl (Ag.upd rfl (Ag.upd rfl (Ag.upd rfl (Ag.upd rfl (Ag.upd rfl (Ag.upd rfl (Ag.upd rfl (Ag.upd rfl (Ag.upd rfl Ag.refl))))))))))))))))))))) | exact (by first | ((repeat (first | with_reducible exact Ag.refl | with_reducible exact Ag.ov | (with_reducible refine Ag.upd ?_ ?_; exact rfl) | with_reducible refine Ag.putn ?_ | (with_reducible refine Ag.ovs ?_ ?_; exact rfl))); done) | (repeat (first | exact Ag.refl | exact Ag.ov | (refine Ag.upd ?_ ?_; exact rfl) | refine Ag.putn ?_ | (refine Ag.ovs ?_ ?_; exact rfl))))) (by (conv => lhs; whnf); first | done | rfl) ?_)
        all_goals (exact congrArg Value.bool (by first | rfl | (refine decide_eq_decide.2 ?_; omega) | (refine (decide_eq_true ?_).symm; omega) | (refine (decide_eq_false ?_).symm; omega) | simp_all))
      refine tq_n ?_
      refine c_cond_d (by (conv => lhs; whnf); first | done | rfl) (fun hc43 => ?_) (fun hc43 => ?_)
      · refine c_seq ?_
        refine c_region ?_
        refine w_mov rfl (by (conv => lhs; whnf); first | done | rfl) ?_
        refine x_fa rfl (by (conv => lhs; whnf); first | done | rfl) ?_
        refine x_ldo rfl (by (conv => lhs; whnf); first | done | rfl) (by first | exact HasC.out | exact PutC.out | repeat (first | exact .here | apply Has.there | apply Put.there | apply Has.app | apply Put.app)) (by (conv => lhs; whnf); first | done | rfl) ?_
        refine x_bld rfl (.cons (by (conv => lhs; whnf); first | done | rfl) (.cons (by (conv => lhs; whnf); first | done | rfl) .nil)) rfl ?_
        refine x_fa rfl (by (conv => lhs; whnf); first | done | rfl) ?_
        refine x_stp rfl (by (conv => lhs; whnf); first | done | rfl) (by (conv => lhs; whnf); first | done | rfl) rfl rfl (by first | exact HasC.out | exact PutC.out | repeat (first | exact .here | apply Has.there | apply Put.there | apply Has.app | apply Put.app)) rfl ?_
        refine w_nil ?_
        refine tq_n ?_
        refine c_seq ?_
        refine c_region ?_
        refine x_ldao rfl (by (conv => lhs; whnf); first | done | rfl) (by first | exact HasC.out | exact PutC.out | repeat (first | exact .here | apply Has.there | apply Put.there | apply Has.app | apply Put.app)) rfl ?_
        refine x_stw rfl (by (conv => lhs; whnf); first | done | rfl) (by (conv => lhs; whnf); first | done | rfl) rfl rfl (by first | exact HasC.out | exact PutC.out | repeat (first | exact .here | apply Has.there | apply Put.there | apply Has.app | apply Put.app)) rfl ?_
        refine w_asg rfl (by (conv => lhs; whnf); first | done | rfl) ?_
        refine w_nil ?_
        refine tq_n ?_
        refine c_ret ?_
        refine tq_r ?_
        exact rq_r (ra_c (by (conv => lhs; whnf); first | done | rfl) (by first | exact HasC.out | exact PutC.out | repeat (first | exact .here | apply Has.there | apply Put.there | apply Has.app | apply Put.app)) rfl (ra_t (by (conv => lhs; whnf); first | done | rfl) .nil)) (by first | exact SubL.out | repeat (first | exact List.Sublist.refl _ | exact List.nil_sublist _ | refine .cons_cons _ ?_ | refine .cons _ ?_ | refine List.Sublist.append (List.Sublist.refl _) ?_ | exact List.sublist_append_left _ _ | refine List.Sublist.trans ?_ (List.sublist_append_right _ _))) (OpR_inr (S := Sv ++ (Sp ++ (Sh ++ Sd))) (hop.trans (if_pos hc43)) ⟨_, rfl, tabO_tw (t := { t with sp := x, sl := b, su := 0 }) hcl g1 g2 g3 g4 (by first | exact SubL.out | repeat (first | exact List.Sublist.refl _ | exact List.nil_sublist _ | refine .cons_cons _ ?_ | refine .cons _ ?_ | refine List.Sublist.append (List.Sublist.refl _) ?_ | exact List.sublist_append_left _ _ | refine List.Sublist.trans ?_ (List.sublist_append_right _ _))) (by first | exact SubL.out | repeat (first | exact List.Sublist.refl _ | exact List.nil_sublist _ | refine .cons_cons _ ?_ | refine .cons _ ?_ | refine List.Sublist.append (List.Sublist.refl _) ?_ | exact List.sublist_append_left _ _ | refine List.Sublist.trans ?_ (List.sublist_append_right _ _))) (by first | exact SubL.out | repeat (first | exact List.Sublist.refl _ | exact List.nil_sublist _ | refine .cons_cons _ ?_ | refine .cons _ ?_ | refine List.Sublist.append (List.Sublist.refl _) ?_ | exact List.sublist_append_left _ _ | refine List.Sublist.trans ?_ (List.sublist_append_right _ _))) (by first | exact SubL.out | repeat (first | exact List.Sublist.refl _ | exact List.nil_sublist _ | refine .cons_cons _ ?_ | refine .cons _ ?_ | refine List.Sublist.append (List.Sublist.refl _) ?_ | exact List.sublist_append_left _ _ | refine List.Sublist.trans ?_ (List.sublist_append_right _ _)))⟩)
      · refine c_skip ?_
        refine tq_n ?_
        refine c_seq ?_
        refine c_seq ?_
        refine c_region_j [50, 51, 52, 53, 54, 55, 56, 57, 58, 59, 60, 61, 62, 63, 64, 65] 65 (.bool (decide (opnRd t k))) ?_ (fun g10 => ?_)
        · all_goals (refine x_fa rfl (by (conv => lhs; whnf); first | done | rfl) ?_)
          all_goals (refine x_ldo rfl (by (conv => lhs; whnf); first | done | rfl) (by first | exact HasC.out | exact PutC.out | repeat (first | exact .here | apply Has.there | apply Put.there | apply Has.app | apply Put.app)) (by (conv => lhs; whnf); first | done | rfl) ?_)
          all_goals (refine w_eql rfl (by (conv => lhs; whnf); first | done | rfl) (by (conv => lhs; whnf); first | done | rfl) ?_)
          all_goals (refine w_mov rfl (by (conv => lhs; whnf); first | done | rfl) ?_)
          all_goals (first | refine w_lit true rfl rfl rfl ?_ | refine w_lit false rfl rfl rfl ?_ | refine w_cases_od rfl rfl rfl (fun hg => ?_) (fun hg => ?_) | refine w_cases_o rfl rfl rfl (fun hg => ?_) (fun hg => ?_) | skip)
          all_goals (first | refine w_skip rfl ?_ | (refine x_fa rfl (by (conv => lhs; whnf); first | done | rfl) ?_))
          all_goals (first | refine w_skip rfl ?_ | (refine x_ldo rfl (by (conv => lhs; whnf); first | done | rfl) (by first | exact HasC.out | exact PutC.out | repeat (first | exact .here | apply Has.there | apply Put.there | apply Has.app | apply Put.app)) (by (conv => lhs; whnf); first | done | rfl) ?_))
          all_goals (first | refine w_skip rfl ?_ | (refine x_len rfl (by (conv => lhs; whnf); first | done | rfl) ?_))
          all_goals (first | refine w_skip rfl ?_ | (refine x_fa rfl (by (conv => lhs; whnf); first | done | rfl) ?_))
          all_goals (first | refine w_skip rfl ?_ | (refine x_ldo rfl (by (conv => lhs; whnf); first | done | rfl) (by first | exact HasC.out | exact PutC.out | repeat (first | exact .here | apply Has.there | apply Put.there | apply Has.app | apply Put.app)) (by (conv => lhs; whnf); first | done | rfl) ?_))
          all_goals (first | refine w_skip rfl ?_ | (refine w_lss rfl (by (conv => lhs; whnf); first | done | rfl) (by (conv => lhs; whnf); first | done | rfl) ?_))
          all_goals (first | refine w_pick_t rfl rfl (by (conv => lhs; whnf); first | done | rfl) ?_ | refine w_pick_f rfl rfl (by (conv => lhs; whnf); first | done | rfl) ?_)
          all_goals (refine w_mov rfl (by (conv => lhs; whnf); first | done | rfl) ?_)
          all_goals (first | refine w_lit true rfl rfl rfl ?_ | refine w_lit false rfl rfl rfl ?_ | refine w_cases_od rfl rfl rfl (fun hg => ?_) (fun hg => ?_) | refine w_cases_o rfl rfl rfl (fun hg => ?_) (fun hg => ?_) | skip)
          all_goals (first | refine w_skip rfl ?_ | (refine x_ldao rfl (by (conv => lhs; whnf); first | done | rfl) (by first | exact HasC.out | exact PutC.out | repeat (first | exact .here | apply Has.there | apply Put.there | apply Has.app | apply Put.app)) rfl ?_))
          all_goals (first | refine w_skip rfl ?_ | (refine x_callp (by decide) (roomr_g (hT.sub (List.nil_sublist _))) rfl rfl rfl ?_))
          all_goals (first | refine w_skip rfl ?_ | (refine w_notd rfl (by (conv => lhs; whnf); first | done | rfl) ?_))
          all_goals (first | refine w_pick_t rfl rfl (by (conv => lhs; whnf); first | done | rfl) ?_ | refine w_pick_f rfl rfl (by (conv => lhs; whnf); first | done | rfl) ?_)
          all_goals (refine w_nil ?_)
          all_goals (refine jn (by first | exact (Ag.upd rfl (Ag.upd rfl (Ag.upd rfl (Ag.upd rfl (Ag.upd rfl (Ag.upd rfl (Ag.upd rfl (Ag.upd rfl (Ag.upd rfl (Ag.upd rfl (Ag.upd rfl (Ag.upd rfl (Ag.upd rfl (Ag.upd rfl (Ag.upd rfl (Ag.upd rfl Ag.refl)))))))))))))))) | exact (by first | ((repeat (first | with_reducible exact Ag.refl | with_reducible exact Ag.ov | (with_reducible refine Ag.upd ?_ ?_; exact rfl) | with_reducible refine Ag.putn ?_ | (with_reducible refine Ag.ovs ?_ ?_; exact rfl))); done) | (repeat (first | exact Ag.refl | exact Ag.ov | (refine Ag.upd ?_ ?_; exact rfl) | refine Ag.putn ?_ | (refine Ag.ovs ?_ ?_; exact rfl))))) (by (conv => lhs; whnf); first | done | rfl) ?_)
          all_goals (exact congrArg Value.bool (by first | exact decide_eq_decide.2 ⟨fun h => ⟨⟨‹k = 4›, ‹(t.lo.length : Int) < t.K›⟩, h⟩, fun h => h.2⟩ | (refine (decide_eq_false ?_).symm; intro h; have h1 := h.1; omega)))
        refine tq_n ?_
        refine c_cond_d (by (conv => lhs; whnf); first | done | rfl) (fun hc65 => ?_) (fun hc65 => ?_)
        · refine c_seq ?_
          refine c_region ?_
          refine x_fa rfl (by (conv => lhs; whnf); first | done | rfl) ?_
          refine x_ldo rfl (by (conv => lhs; whnf); first | done | rfl) (by first | exact HasC.out | exact PutC.out | repeat (first | exact .here | apply Has.there | apply Put.there | apply Has.app | apply Put.app)) (by (conv => lhs; whnf); first | done | rfl) ?_
          refine w_mov rfl (by (conv => lhs; whnf); first | done | rfl) ?_
          refine x_bld rfl (.cons (by (conv => lhs; whnf); first | done | rfl) .nil) rfl ?_
          refine x_bs1 rfl (by (conv => lhs; whnf); first | done | rfl) rfl rfl rfl rfl ?_
          intro b70
          refine x_app rfl (by (conv => lhs; whnf); first | done | rfl) (by (conv => lhs; whnf); first | done | rfl) (perm2) (g3) (xs_new (by first | exact HasC.out | exact PutC.out | repeat (first | exact .here | apply Has.there | apply Put.there | apply Has.app | apply Put.app))) (rfl) (rfl) (by omega) (by decide) ?_
          rintro v68 S68 hS68
          obtain ⟨A68, c68, rfl, _⟩ := hS68.form
          refine x_fa rfl (by (conv => lhs; whnf); first | done | rfl) ?_
          refine x_st1 rfl (by (conv => lhs; whnf); first | done | rfl) (by (conv => lhs; whnf); first | done | rfl) rfl (by first | exact HasC.out | exact PutC.out | repeat (first | exact .here | apply Has.there | apply Put.there | apply Has.app | apply Put.app)) rfl ?_
          refine w_nil ?_
          refine tq_n ?_
          refine c_seq ?_
          refine c_region ?_
          refine x_ldao rfl (by (conv => lhs; whnf); first | done | rfl) (by first | exact HasC.out | exact PutC.out | repeat (first | exact .here | apply Has.there | apply Put.there | apply Has.app | apply Put.app)) rfl ?_
          refine x_stw rfl (by (conv => lhs; whnf); first | done | rfl) (by (conv => lhs; whnf); first | done | rfl) rfl rfl (by first | exact HasC.out | exact PutC.out | repeat (first | exact .here | apply Has.there | apply Put.there | apply Has.app | apply Put.app)) rfl ?_
          refine w_asg rfl (by (conv => lhs; whnf); first | done | rfl) ?_
          refine w_nil ?_
          refine tq_n ?_
          refine c_ret ?_
          refine tq_r ?_
          exact rq_r (ra_c (by (conv => lhs; whnf); first | done | rfl) (by first | exact HasC.out | exact PutC.out | repeat (first | exact .here | apply Has.there | apply Put.there | apply Has.app | apply Put.app)) rfl (ra_t (by (conv => lhs; whnf); first | done | rfl) .nil)) (by first | exact SubL.out | repeat (first | exact List.Sublist.refl _ | exact List.nil_sublist _ | refine .cons_cons _ ?_ | refine .cons _ ?_ | refine List.Sublist.append (List.Sublist.refl _) ?_ | exact List.sublist_append_left _ _ | refine List.Sublist.trans ?_ (List.sublist_append_right _ _))) (OpR_inr (S := S68 ++ (Sp ++ (Sh ++ Sd))) (hop.trans ((if_neg hc43).trans (if_pos hc65))) ⟨_, rfl, tabO_tw (lv := lv ++ [(x, .slice none 0 0)]) (t := { t with lo := t.lo ++ [⟨x, []⟩] }) (cl_open hcl (by omega)) g1 g2 (by rw [List.length_append, List.flatMap_append]; exact hS68) (show LW (lv ++ [(x, .slice none 0 0)]) (t.lo ++ [⟨x, []⟩]) Sp from LW.snoc (S1 := []) (pg := []) g4 OSl.nil (Nat.zero_le _)) (by first | exact SubL.out | repeat (first | exact List.Sublist.refl _ | exact List.nil_sublist _ | refine .cons_cons _ ?_ | refine .cons _ ?_ | refine List.Sublist.append (List.Sublist.refl _) ?_ | exact List.sublist_append_left _ _ | refine List.Sublist.trans ?_ (List.sublist_append_right _ _))) (by first | exact SubL.out | repeat (first | exact List.Sublist.refl _ | exact List.nil_sublist _ | refine .cons_cons _ ?_ | refine .cons _ ?_ | refine List.Sublist.append (List.Sublist.refl _) ?_ | exact List.sublist_append_left _ _ | refine List.Sublist.trans ?_ (List.sublist_append_right _ _))) (by first | exact SubL.out | repeat (first | exact List.Sublist.refl _ | exact List.nil_sublist _ | refine .cons_cons _ ?_ | refine .cons _ ?_ | refine List.Sublist.append (List.Sublist.refl _) ?_ | exact List.sublist_append_left _ _ | refine List.Sublist.trans ?_ (List.sublist_append_right _ _))) (by first | exact SubL.out | repeat (first | exact List.Sublist.refl _ | exact List.nil_sublist _ | refine .cons_cons _ ?_ | refine .cons _ ?_ | refine List.Sublist.append (List.Sublist.refl _) ?_ | exact List.sublist_append_left _ _ | refine List.Sublist.trans ?_ (List.sublist_append_right _ _)))⟩)
        · refine c_skip ?_
          refine tq_n ?_
          refine c_seq ?_
          refine c_region ?_
          refine x_bld rfl .nil rfl ?_
          refine x_stw rfl (by (conv => lhs; whnf); first | done | rfl) (by (conv => lhs; whnf); first | done | rfl) rfl rfl (by first | exact HasC.out | exact PutC.out | repeat (first | exact .here | apply Has.there | apply Put.there | apply Has.app | apply Put.app)) rfl ?_
          refine w_asg rfl (by (conv => lhs; whnf); first | done | rfl) ?_
          refine w_nil ?_
          refine tq_n ?_
          refine c_ret ?_
          exact rq_r (ra_c (by (conv => lhs; whnf); first | done | rfl) (by first | exact HasC.out | exact PutC.out | repeat (first | exact .here | apply Has.there | apply Put.there | apply Has.app | apply Put.app)) rfl (ra_t (by (conv => lhs; whnf); first | done | rfl) .nil)) (by first | exact SubL.out | repeat (first | exact List.Sublist.refl _ | exact List.nil_sublist _ | refine .cons_cons _ ?_ | refine .cons _ ?_ | refine List.Sublist.append (List.Sublist.refl _) ?_ | exact List.sublist_append_left _ _ | refine List.Sublist.trans ?_ (List.sublist_append_right _ _))) (OpR_inl (e := 51) (hop.trans ((if_neg hc43).trans (if_neg hc65))) rfl)
theorem skipr_g {v : Value} {t : Tb} {k b : Int} (h : TabR w0 L v t) : Gives Try.prog w0 L 26 [v, .agg #[.int .i64 k, .int .i64 b]] (fun v' L' => ∃ S, L' = S ++ L ∧ OpR (skip t k) v' S) := by
  refine enterB (R := OpR (skip t k)) Try.func26 rfl Try.ntmps26 Try.results26 (Nat.le_of_ble_eq_true rfl) fun w hM => ?_
  have hT := h.at hM
  obtain ⟨vd, vh, vl, rfl, hd, hh, hlo⟩ := ((h).at hM).ex; obtain ⟨Ad, cd, rfl, hdc, hdl, hdA, hdR⟩ := id hd.ex; obtain ⟨Ah, ch, rfl, hhc, hhl, hhA, hhR⟩ := id hh.ex; obtain ⟨Al, cl, rfl, hlc, hll, hlA, hlR⟩ := LogR.opn hlo
  clear hM
  refine c_seq ?_
  refine c_region ?_
  refine x_boxa rfl (by (conv => lhs; whnf); first | done | rfl) ?_
  intro b2
  refine x_boxa rfl (by (conv => lhs; whnf); first | done | rfl) ?_
  intro b3
  refine x_al rfl ?_
  intro b4
  refine w_asg rfl (by (conv => lhs; whnf); first | done | rfl) ?_
  refine w_nil ?_
  refine tq_n ?_
  refine c_seq ?_
  refine c_seq ?_
  refine c_region ?_
  refine x_ldao rfl (by (conv => lhs; whnf); first | done | rfl) (by first | exact HasC.out | exact PutC.out | repeat (first | exact .here | apply Has.there | apply Put.there | apply Has.app | apply Put.app)) rfl ?_
  refine x_callp (by decide) (checkr_g (hT.sub (List.nil_sublist _))) rfl rfl rfl ?_
  refine w_asg rfl (by (conv => lhs; whnf); first | done | rfl) ?_
  refine w_nil ?_
  refine tq_n ?_
  refine c_seq ?_
  refine c_region ?_
  refine w_mov rfl (by (conv => lhs; whnf); first | done | rfl) ?_
  refine w_neq rfl (by (conv => lhs; whnf); first | done | rfl) (by (conv => lhs; whnf); first | done | rfl) ?_
  refine w_nil ?_
  refine tq_n ?_
  refine c_cond_d (by (conv => lhs; whnf); first | done | rfl) (fun hc12 => ?_) (fun hc12 => ?_)
  · have hm : ¬ May t := fun hm => hc12 (if_pos hm)
    refine c_seq ?_
    refine c_region ?_
    refine x_bld rfl .nil rfl ?_
    refine w_mov rfl (by (conv => lhs; whnf); first | done | rfl) ?_
    refine x_stw rfl (by (conv => lhs; whnf); first | done | rfl) (by (conv => lhs; whnf); first | done | rfl) rfl rfl (by first | exact HasC.out | exact PutC.out | repeat (first | exact .here | apply Has.there | apply Put.there | apply Has.app | apply Put.app)) rfl ?_
    refine w_asg rfl (by (conv => lhs; whnf); first | done | rfl) ?_
    refine w_nil ?_
    refine tq_n ?_
    refine c_ret ?_
    refine tq_r ?_
    exact rq_r (ra_c (by (conv => lhs; whnf); first | done | rfl) (by first | exact HasC.out | exact PutC.out | repeat (first | exact .here | apply Has.there | apply Put.there | apply Has.app | apply Put.app)) rfl (ra_t (by (conv => lhs; whnf); first | done | rfl) .nil)) (by first | exact SubL.out | repeat (first | exact List.Sublist.refl _ | exact List.nil_sublist _ | refine .cons_cons _ ?_ | refine .cons _ ?_ | refine List.Sublist.append (List.Sublist.refl _) ?_ | exact List.sublist_append_left _ _ | refine List.Sublist.trans ?_ (List.sublist_append_right _ _))) ((by unfold skip; simp only [if_neg hm]; rfl))
  · have hm : May t := Decidable.byContradiction fun hm => hc12 (by rw [if_neg hm]; decide)
    have hLi := hm.1
    have hcl := hLi.cl
    refine c_skip ?_
    refine tq_n ?_
    refine c_seq ?_
    refine c_seq ?_
    refine c_region_j [15, 16, 17, 18, 19, 20, 21, 22] 22 (.bool (decide (¬ (k = 2 ∧ room t)))) ?_ (fun g4 => ?_)
    · all_goals (refine x_fa rfl (by (conv => lhs; whnf); first | done | rfl) ?_)
      all_goals (refine x_ldo rfl (by (conv => lhs; whnf); first | done | rfl) (by first | exact HasC.out | exact PutC.out | repeat (first | exact .here | apply Has.there | apply Put.there | apply Has.app | apply Put.app)) (by (conv => lhs; whnf); first | done | rfl) ?_)
      all_goals (refine w_neq rfl (by (conv => lhs; whnf); first | done | rfl) (by (conv => lhs; whnf); first | done | rfl) ?_)
      all_goals (refine w_mov rfl (by (conv => lhs; whnf); first | done | rfl) ?_)
      all_goals (first | refine w_lit true rfl rfl rfl ?_ | refine w_lit false rfl rfl rfl ?_ | refine w_cases_od rfl rfl rfl (fun hg => ?_) (fun hg => ?_) | refine w_cases_o rfl rfl rfl (fun hg => ?_) (fun hg => ?_) | skip)
      all_goals (first | refine w_skip rfl ?_ | (refine x_ldao rfl (by (conv => lhs; whnf); first | done | rfl) (by first | exact HasC.out | exact PutC.out | repeat (first | exact .here | apply Has.there | apply Put.there | apply Has.app | apply Put.app)) rfl ?_))
      all_goals (first | refine w_skip rfl ?_ | (refine x_callp (by decide) (roomr_g (hT.sub (List.nil_sublist _))) rfl rfl rfl ?_))
      all_goals (first | refine w_skip rfl ?_ | (refine w_notd rfl (by (conv => lhs; whnf); first | done | rfl) ?_))
      all_goals (first | refine w_pick_t rfl rfl (by (conv => lhs; whnf); first | done | rfl) ?_ | refine w_pick_f rfl rfl (by (conv => lhs; whnf); first | done | rfl) ?_)
      all_goals (refine w_nil ?_)
      all_goals (refine jn (by first | exact (Ag.upd rfl (Ag.upd rfl (Ag.upd rfl (Ag.upd rfl (Ag.upd rfl (Ag.upd rfl (Ag.upd rfl (Ag.upd rfl Ag.refl)))))))) | exact (by first | ((repeat (first | with_reducible exact Ag.refl | with_reducible exact Ag.ov | (with_reducible refine Ag.upd ?_ ?_; exact rfl) | with_reducible refine Ag.putn ?_ | (with_reducible refine Ag.ovs ?_ ?_; exact rfl))); done) | (repeat (first | exact Ag.refl | exact Ag.ov | (refine Ag.upd ?_ ?_; exact rfl) | refine Ag.putn ?_ | (refine Ag.ovs ?_ ?_; exact rfl))))) (by (conv => lhs; whnf); first | done | rfl) ?_)
      all_goals (exact congrArg Value.bool (by first | exact (decide_eq_true (show ¬ (k = 2 ∧ room t) from fun h => hg h.1)).symm | exact decide_eq_decide.2 ⟨fun h h2 => h h2.2, fun h h2 => h ⟨Decidable.not_not.1 hg, h2⟩⟩))
    refine tq_n ?_
    refine c_cond_d (by (conv => lhs; whnf); first | done | rfl) (fun hc22 => ?_) (fun hc22 => ?_)
    · refine c_seq ?_
      refine c_region ?_
      refine x_bld rfl .nil rfl ?_
      refine x_stw rfl (by (conv => lhs; whnf); first | done | rfl) (by (conv => lhs; whnf); first | done | rfl) rfl rfl (by first | exact HasC.out | exact PutC.out | repeat (first | exact .here | apply Has.there | apply Put.there | apply Has.app | apply Put.app)) rfl ?_
      refine w_asg rfl (by (conv => lhs; whnf); first | done | rfl) ?_
      refine w_nil ?_
      refine tq_n ?_
      refine c_ret ?_
      refine tq_r ?_
      exact rq_r (ra_c (by (conv => lhs; whnf); first | done | rfl) (by first | exact HasC.out | exact PutC.out | repeat (first | exact .here | apply Has.there | apply Put.there | apply Has.app | apply Put.app)) rfl (ra_t (by (conv => lhs; whnf); first | done | rfl) .nil)) (by first | exact SubL.out | repeat (first | exact List.Sublist.refl _ | exact List.nil_sublist _ | refine .cons_cons _ ?_ | refine .cons _ ?_ | refine List.Sublist.append (List.Sublist.refl _) ?_ | exact List.sublist_append_left _ _ | refine List.Sublist.trans ?_ (List.sublist_append_right _ _))) ((by unfold skip; simp only [if_pos hm, if_neg hc22]; rfl))
    · have hkr := Decidable.not_not.1 hc22
      refine c_skip ?_
      refine tq_n ?_
      refine c_seq ?_
      refine c_region ?_
      refine x_ldao rfl (by (conv => lhs; whnf); first | done | rfl) (by first | exact HasC.out | exact PutC.out | repeat (first | exact .here | apply Has.there | apply Put.there | apply Has.app | apply Put.app)) rfl ?_
      refine x_call (clonr_g (hT.sub (List.nil_sublist _)) hcl.b) rfl rfl rfl ?_
      rintro _ _ ⟨S, rfl, Sv, Sp, Sd, Sh, rfl, vd2, vh2, vl2, lv, rfl, g1, g2, g3, g4⟩
      obtain ⟨Ad2, cd2, rfl, _⟩ := g1.form
      obtain ⟨Ah2, ch2, rfl, _⟩ := g2.form
      obtain ⟨Al2, cl2, rfl, hcl2, hAl, hRl⟩ := logs_opn g3 g4.len hcl.2.2.1
      obtain ⟨lv', lo', ph, pv, pg, S', S1, rfl, hlo', rfl, g5, g6, hpg⟩ := g4.last hkr.2.1
      have hln := g4.len
      have hl5 := g5.len
      have hll5 : lv'.length = t.lo.length - 1 := (by rw [hl5, hlo']; simp)
      have hix : ((t.lo.length : Int) - 1).toNat = lv'.length := (by have := hkr.2.1; omega)
      have hlp : (lv' ++ [(ph, pv)])[((t.lo.length : Int) - 1).toNat]? = some (ph, pv) := (by rw [show ((t.lo.length : Int) - 1).toNat = lv'.length by have := hkr.2.1; omega]; simp)
      obtain ⟨Ap, cp, rfl, hcp⟩ := g6.form
      simp only [List.append_assoc]
      refine x_al rfl ?_
      intro b7
      refine x_stw rfl (by (conv => lhs; whnf); first | done | rfl) (by (conv => lhs; whnf); first | done | rfl) rfl rfl (by first | exact HasC.out | exact PutC.out | repeat (first | exact .here | apply Has.there | apply Put.there | apply Has.app | apply Put.app)) rfl ?_
      refine w_nil ?_
      refine tq_n ?_
      refine c_seq ?_
      refine c_region ?_
      refine x_fa rfl (by (conv => lhs; whnf); first | done | rfl) ?_
      refine x_ldo rfl (by (conv => lhs; whnf); first | done | rfl) (by first | exact HasC.out | exact PutC.out | repeat (first | exact .here | apply Has.there | apply Put.there | apply Has.app | apply Put.app)) (by (conv => lhs; whnf); first | done | rfl) ?_
      refine x_len rfl (by (conv => lhs; whnf); first | done | rfl) ?_
      refine w_sub rfl (by (conv => lhs; whnf); first | done | rfl) (by (conv => lhs; whnf); first | done | rfl) (by omega) ?_
      refine w_asg rfl (by (conv => lhs; whnf); first | done | rfl) ?_
      refine w_nil ?_
      refine tq_n ?_
      refine c_seq ?_
      refine d_begin_s ((show List.Sublist ((b7, _) :: (Sv ++ (S' ++ (Sh ++ (Sd ++ _))))) _ from (by first | exact SubL.out | repeat (first | exact List.Sublist.refl _ | exact List.nil_sublist _ | refine .cons_cons _ ?_ | refine .cons _ ?_ | refine List.Sublist.append (List.Sublist.refl _) ?_ | exact List.sublist_append_left _ _ | refine List.Sublist.trans ?_ (List.sublist_append_right _ _))))) [13] mixed ?_
      refine d_tk0 0 (np_then np_ret) rfl (by kernel_rfl) (by kernel_rfl) (by kernel_rfl) (by kernel_rfl) (.inl (by first | exact SubL.out | repeat (first | exact List.Sublist.refl _ | exact List.nil_sublist _ | refine .cons_cons _ ?_ | refine .cons _ ?_ | refine List.Sublist.append (List.Sublist.refl _) ?_ | exact List.sublist_append_left _ _ | refine List.Sublist.trans ?_ (List.sublist_append_right _ _)))) ?_
      refine x_fa rfl (by (conv => lhs; whnf); first | done | rfl) ?_
      refine w_nil ⟨rfl, rfl, ?_⟩
      refine d_tk 1 (np_then np_ret) rfl (by kernel_rfl) (by kernel_rfl) (by kernel_rfl) (by kernel_rfl) (by kernel_rfl) (by first | exact SubL.out | repeat (first | exact List.Sublist.refl _ | exact List.nil_sublist _ | refine .cons_cons _ ?_ | refine .cons _ ?_ | refine List.Sublist.append (List.Sublist.refl _) ?_ | exact List.sublist_append_left _ _ | refine List.Sublist.trans ?_ (List.sublist_append_right _ _))) ?_
      refine x_ldo rfl (by (conv => lhs; whnf); first | done | rfl) (by first | exact HasC.out | exact PutC.out | repeat (first | exact .here | apply Has.there | apply Put.there | apply Has.app | apply Put.app)) (by (conv => lhs; whnf); first | done | rfl) ?_
      refine w_nil ⟨rfl, rfl, ?_⟩
      refine d_tk0 2 (np_then np_ret) rfl (by kernel_rfl) (by kernel_rfl) (by kernel_rfl) (by kernel_rfl) (.inl (by first | exact SubL.out | repeat (first | exact List.Sublist.refl _ | exact List.nil_sublist _ | refine .cons_cons _ ?_ | refine .cons _ ?_ | refine List.Sublist.append (List.Sublist.refl _) ?_ | exact List.sublist_append_left _ _ | refine List.Sublist.trans ?_ (List.sublist_append_right _ _)))) ?_
      refine w_mov rfl (by (conv => lhs; whnf); first | done | rfl) ?_
      refine w_nil ⟨rfl, rfl, ?_⟩
      refine d_tk0 3 (np_then np_ret) rfl (by kernel_rfl) (by kernel_rfl) (by kernel_rfl) (by kernel_rfl) (.inl (by first | exact SubL.out | repeat (first | exact List.Sublist.refl _ | exact List.nil_sublist _ | refine .cons_cons _ ?_ | refine .cons _ ?_ | refine List.Sublist.append (List.Sublist.refl _) ?_ | exact List.sublist_append_left _ _ | refine List.Sublist.trans ?_ (List.sublist_append_right _ _)))) ?_
      refine x_fa rfl (by (conv => lhs; whnf); first | done | rfl) ?_
      refine w_nil ⟨rfl, rfl, ?_⟩
      refine d_tk 4 (np_then np_ret) rfl (by kernel_rfl) (by kernel_rfl) (by kernel_rfl) (by kernel_rfl) (by kernel_rfl) (by first | exact SubL.out | repeat (first | exact List.Sublist.refl _ | exact List.nil_sublist _ | refine .cons_cons _ ?_ | refine .cons _ ?_ | refine List.Sublist.append (List.Sublist.refl _) ?_ | exact List.sublist_append_left _ _ | refine List.Sublist.trans ?_ (List.sublist_append_right _ _))) ?_
      refine x_ldo rfl (by (conv => lhs; whnf); first | done | rfl) (by first | exact HasC.out | exact PutC.out | repeat (first | exact .here | apply Has.there | apply Put.there | apply Has.app | apply Put.app)) (by (conv => lhs; whnf); first | done | rfl) ?_
      refine w_nil ⟨rfl, rfl, ?_⟩
      refine d_tk0 5 (np_then np_ret) rfl (by kernel_rfl) (by kernel_rfl) (by kernel_rfl) (by kernel_rfl) (.inl (by first | exact SubL.out | repeat (first | exact List.Sublist.refl _ | exact List.nil_sublist _ | refine .cons_cons _ ?_ | refine .cons _ ?_ | refine List.Sublist.append (List.Sublist.refl _) ?_ | exact List.sublist_append_left _ _ | refine List.Sublist.trans ?_ (List.sublist_append_right _ _)))) ?_
      refine w_mov rfl (by (conv => lhs; whnf); first | done | rfl) ?_
      refine w_nil ⟨rfl, rfl, ?_⟩
      refine d_tk0 6 (np_then np_ret) rfl (by kernel_rfl) (by kernel_rfl) (by kernel_rfl) (by kernel_rfl) (.inl (by first | exact SubL.out | repeat (first | exact List.Sublist.refl _ | exact List.nil_sublist _ | refine .cons_cons _ ?_ | refine .cons _ ?_ | refine List.Sublist.append (List.Sublist.refl _) ?_ | exact List.sublist_append_left _ _ | refine List.Sublist.trans ?_ (List.sublist_append_right _ _)))) ?_
      refine x_ixA rfl (by (conv => lhs; whnf); first | done | rfl) (by (conv => lhs; whnf); first | done | rfl) (hAl hkr.2.1) (by omega) (by omega) ?_
      refine w_nil ⟨rfl, rfl, ?_⟩
      refine d_tk0 7 (np_then np_ret) rfl (by kernel_rfl) (by kernel_rfl) (by kernel_rfl) (by kernel_rfl) (.inl (by first | exact SubL.out | repeat (first | exact List.Sublist.refl _ | exact List.nil_sublist _ | refine .cons_cons _ ?_ | refine .cons _ ?_ | refine List.Sublist.append (List.Sublist.refl _) ?_ | exact List.sublist_append_left _ _ | refine List.Sublist.trans ?_ (List.sublist_append_right _ _)))) ?_
      refine x_fa rfl (by (conv => lhs; whnf); first | done | rfl) ?_
      refine w_nil ⟨rfl, rfl, ?_⟩
      refine d_tk 8 (np_then np_ret) rfl (by kernel_rfl) (by kernel_rfl) (by kernel_rfl) (by kernel_rfl) (by kernel_rfl) (by first | exact SubL.out | repeat (first | exact List.Sublist.refl _ | exact List.nil_sublist _ | refine .cons_cons _ ?_ | refine .cons _ ?_ | refine List.Sublist.append (List.Sublist.refl _) ?_ | exact List.sublist_append_left _ _ | refine List.Sublist.trans ?_ (List.sublist_append_right _ _))) ?_
      refine x_ld rfl (by (conv => lhs; whnf); first | done | rfl) ((hRl _ _ (by first | exact SubL.out | repeat (first | exact List.Sublist.refl _ | exact List.nil_sublist _ | refine .cons_cons _ ?_ | refine .cons _ ?_ | refine List.Sublist.append (List.Sublist.refl _) ?_ | exact List.sublist_append_left _ _ | refine List.Sublist.trans ?_ (List.sublist_append_right _ _))) _ _ hlp).2) ?_
      refine w_nil ⟨rfl, rfl, ?_⟩
      refine d_one 9 rfl (by kernel_rfl) ?_
      refine x_bs1 rfl (by (conv => lhs; whnf); first | done | rfl) rfl rfl rfl rfl ?_
      intro b39
      refine w_nil ⟨rfl, (.inl (by first | exact SubL.out | repeat (first | exact List.Sublist.refl _ | exact List.nil_sublist _ | refine .cons_cons _ ?_ | refine .cons _ ?_ | refine List.Sublist.append (List.Sublist.refl _) ?_ | exact List.sublist_append_left _ _ | refine List.Sublist.trans ?_ (List.sublist_append_right _ _)))), ?_⟩
      refine d_one 10 rfl (by kernel_rfl) ?_
      refine x_app rfl (by (conv => lhs; whnf); first | done | rfl) (by (conv => lhs; whnf); first | done | rfl) (perm5) (g6) (xs_new (by first | exact HasC.out | exact PutC.out | repeat (first | exact .here | apply Has.there | apply Put.there | apply Has.app | apply Put.app))) (rfl) (rfl) (by have := hcl.2.2.2 ⟨ph, pg⟩ (by rw [hlo']; simp); simp only at this; omega) (by decide) ?_
      rintro v39 S39 hS39
      obtain ⟨cs2, Sv2, hput, hbnd, g3'⟩ := logs_set (v := v39) g3 rfl
      rw [← hix] at hput hbnd
      refine w_nil ⟨rfl, (.inl (by first | exact SubL.out | repeat (first | exact List.Sublist.refl _ | exact List.nil_sublist _ | refine .cons_cons _ ?_ | refine .cons _ ?_ | refine List.Sublist.append (List.Sublist.refl _) ?_ | exact List.sublist_append_left _ _ | refine List.Sublist.trans ?_ (List.sublist_append_right _ _)))), ?_⟩
      refine d_tk0 11 (np_then np_ret) rfl (by kernel_rfl) (by kernel_rfl) (by kernel_rfl) (by kernel_rfl) (.inl (by first | exact SubL.out | repeat (first | exact List.Sublist.refl _ | exact List.nil_sublist _ | refine .cons_cons _ ?_ | refine .cons _ ?_ | refine List.Sublist.append (List.Sublist.refl _) ?_ | exact List.sublist_append_left _ _ | refine List.Sublist.trans ?_ (List.sublist_append_right _ _)))) ?_
      refine x_ixA rfl (by (conv => lhs; whnf); first | done | rfl) (by (conv => lhs; whnf); first | done | rfl) (hAl hkr.2.1) (by omega) (by omega) ?_
      refine w_nil ⟨rfl, rfl, ?_⟩
      refine d_tk0 12 (np_then np_ret) rfl (by kernel_rfl) (by kernel_rfl) (by kernel_rfl) (by kernel_rfl) (.inl (by first | exact SubL.out | repeat (first | exact List.Sublist.refl _ | exact List.nil_sublist _ | refine .cons_cons _ ?_ | refine .cons _ ?_ | refine List.Sublist.append (List.Sublist.refl _) ?_ | exact List.sublist_append_left _ _ | refine List.Sublist.trans ?_ (List.sublist_append_right _ _)))) ?_
      refine x_fa rfl (by (conv => lhs; whnf); first | done | rfl) ?_
      refine w_nil ⟨rfl, rfl, ?_⟩
      refine d_one 13 rfl (by kernel_rfl) ?_
      refine x_sts rfl (by (conv => lhs; whnf); first | done | rfl) (by (conv => lhs; whnf); first | done | rfl) (hS39.one) (Put.app (.there (.there (Put.appl hput)))) (hbnd) ?_
      refine w_nil ⟨rfl, (.inr (by kernel_rfl)), ?_⟩
      refine d_done (by kernel_rfl) ?_
      refine tq_n ?_
      refine c_seq ?_
      refine c_region ?_
      refine x_ldao rfl (by (conv => lhs; whnf); first | done | rfl) (by first | exact HasC.out | exact PutC.out | repeat (first | exact .here | apply Has.there | apply Put.there | apply Has.app | apply Put.app)) rfl ?_
      refine x_stw rfl (by (conv => lhs; whnf); first | done | rfl) (by (conv => lhs; whnf); first | done | rfl) rfl rfl (by first | exact HasC.out | exact PutC.out | repeat (first | exact .here | apply Has.there | apply Put.there | apply Has.app | apply Put.app)) rfl ?_
      refine w_asg rfl (by (conv => lhs; whnf); first | done | rfl) ?_
      refine w_nil ?_
      refine tq_n ?_
      refine c_ret ?_
      exact rq_r (ra_c (by (conv => lhs; whnf); first | done | rfl) (by first | exact HasC.out | exact PutC.out | repeat (first | exact .here | apply Has.there | apply Put.there | apply Has.app | apply Put.app)) rfl (ra_t (by (conv => lhs; whnf); first | done | rfl) .nil)) (by first | exact SubL.out | repeat (first | exact List.Sublist.refl _ | exact List.nil_sublist _ | refine .cons_cons _ ?_ | refine .cons _ ?_ | refine List.Sublist.append (List.Sublist.refl _) ?_ | exact List.sublist_append_left _ _ | refine List.Sublist.trans ?_ (List.sublist_append_right _ _))) (OpR_inr (S := S39 ++ (Sv2 ++ (S' ++ (Sh ++ Sd)))) (show skip t k = _ by unfold skip; simp only [if_pos hm, if_pos hkr]) ⟨_, rfl, tabO_last hcl hlo' g1 g2 g3' g5 hS39 (pg_last hLi hlo') (by first | exact SubL.out | repeat (first | exact List.Sublist.refl _ | exact List.nil_sublist _ | refine .cons_cons _ ?_ | refine .cons _ ?_ | refine List.Sublist.append (List.Sublist.refl _) ?_ | exact List.sublist_append_left _ _ | refine List.Sublist.trans ?_ (List.sublist_append_right _ _))) (by first | exact SubL.out | repeat (first | exact List.Sublist.refl _ | exact List.nil_sublist _ | refine .cons_cons _ ?_ | refine .cons _ ?_ | refine List.Sublist.append (List.Sublist.refl _) ?_ | exact List.sublist_append_left _ _ | refine List.Sublist.trans ?_ (List.sublist_append_right _ _))) (by first | exact SubL.out | repeat (first | exact List.Sublist.refl _ | exact List.nil_sublist _ | refine .cons_cons _ ?_ | refine .cons _ ?_ | refine List.Sublist.append (List.Sublist.refl _) ?_ | exact List.sublist_append_left _ _ | refine List.Sublist.trans ?_ (List.sublist_append_right _ _))) (by first | exact SubL.out | repeat (first | exact List.Sublist.refl _ | exact List.nil_sublist _ | refine .cons_cons _ ?_ | refine .cons _ ?_ | refine List.Sublist.append (List.Sublist.refl _) ?_ | exact List.sublist_append_left _ _ | refine List.Sublist.trans ?_ (List.sublist_append_right _ _)))⟩)
theorem droppedr_g {v : Value} {t : Tb} (h : TabR w0 L v t) : Gives Try.prog w0 L 44 [v] (fun v' L' => ∃ S, L' = S ++ L ∧ DrR (drop1 t) v' S) := by
  refine enterB (R := DrR (drop1 t)) Try.func44 rfl Try.ntmps44 Try.results44 (Nat.le_of_ble_eq_true rfl) fun w hM => ?_
  have hT := h.at hM
  obtain ⟨vd, vh, vl, rfl, hd, hh, hlo⟩ := ((h).at hM).ex; obtain ⟨Ad, cd, rfl, hdc, hdl, hdA, hdR⟩ := id hd.ex; obtain ⟨Ah, ch, rfl, hhc, hhl, hhA, hhR⟩ := id hh.ex; obtain ⟨Al, cl, rfl, hlc, hll, hlA, hlR⟩ := LogR.opn hlo
  clear hM
  refine c_seq ?_
  refine c_region ?_
  refine x_boxa rfl (by (conv => lhs; whnf); first | done | rfl) ?_
  intro b1
  refine x_al rfl ?_
  intro b2
  refine w_asg rfl (by (conv => lhs; whnf); first | done | rfl) ?_
  refine w_asg rfl (by (conv => lhs; whnf); first | done | rfl) ?_
  refine w_nil ?_
  refine tq_n ?_
  refine c_seq ?_
  refine c_seq ?_
  refine c_region ?_
  refine x_ldao rfl (by (conv => lhs; whnf); first | done | rfl) (by first | exact HasC.out | exact PutC.out | repeat (first | exact .here | apply Has.there | apply Put.there | apply Has.app | apply Put.app)) rfl ?_
  refine x_callp (by decide) (checkr_g (hT.sub (List.nil_sublist _))) rfl rfl rfl ?_
  refine w_asg rfl (by (conv => lhs; whnf); first | done | rfl) ?_
  refine w_nil ?_
  refine tq_n ?_
  refine c_seq ?_
  refine c_region ?_
  refine w_mov rfl (by (conv => lhs; whnf); first | done | rfl) ?_
  refine w_neq rfl (by (conv => lhs; whnf); first | done | rfl) (by (conv => lhs; whnf); first | done | rfl) ?_
  refine w_nil ?_
  refine tq_n ?_
  refine c_cond_d (by (conv => lhs; whnf); first | done | rfl) (fun hc11 => ?_) (fun hc11 => ?_)
  · have hm : ¬ May t := fun hm => hc11 (if_pos hm)
    refine c_seq ?_
    refine c_region ?_
    refine x_bld rfl .nil rfl ?_
    refine w_mov rfl (by (conv => lhs; whnf); first | done | rfl) ?_
    refine x_stw rfl (by (conv => lhs; whnf); first | done | rfl) (by (conv => lhs; whnf); first | done | rfl) rfl rfl (by first | exact HasC.out | exact PutC.out | repeat (first | exact .here | apply Has.there | apply Put.there | apply Has.app | apply Put.app)) rfl ?_
    refine w_asg rfl (by (conv => lhs; whnf); first | done | rfl) ?_
    refine w_asg rfl (by (conv => lhs; whnf); first | done | rfl) ?_
    refine w_nil ?_
    refine tq_n ?_
    refine c_ret ?_
    refine tq_r ?_
    exact rq_r (ra_c (by (conv => lhs; whnf); first | done | rfl) (by first | exact HasC.out | exact PutC.out | repeat (first | exact .here | apply Has.there | apply Put.there | apply Has.app | apply Put.app)) rfl (ra_t (by (conv => lhs; whnf); first | done | rfl) (ra_t (by (conv => lhs; whnf); first | done | rfl) .nil))) (by first | exact SubL.out | repeat (first | exact List.Sublist.refl _ | exact List.nil_sublist _ | refine .cons_cons _ ?_ | refine .cons _ ?_ | refine List.Sublist.append (List.Sublist.refl _) ?_ | exact List.sublist_append_left _ _ | refine List.Sublist.trans ?_ (List.sublist_append_right _ _))) (DrR_inl (e := 50) (by unfold drop1; simp only [if_neg hm]) (by simp only [if_neg hm]; rfl))
  · have hm : May t := Decidable.byContradiction fun hm => hc11 (by rw [if_neg hm]; decide)
    have hLi := hm.1
    have hcl := hLi.cl
    refine c_skip ?_
    refine tq_n ?_
    refine c_seq ?_
    refine c_seq ?_
    refine c_region ?_
    refine x_fa rfl (by (conv => lhs; whnf); first | done | rfl) ?_
    refine x_ldo rfl (by (conv => lhs; whnf); first | done | rfl) (by first | exact HasC.out | exact PutC.out | repeat (first | exact .here | apply Has.there | apply Put.there | apply Has.app | apply Put.app)) (by (conv => lhs; whnf); first | done | rfl) ?_
    refine x_len rfl (by (conv => lhs; whnf); first | done | rfl) ?_
    refine w_eql rfl (by (conv => lhs; whnf); first | done | rfl) (by (conv => lhs; whnf); first | done | rfl) ?_
    refine w_nil ?_
    refine tq_n ?_
    refine c_cond_d (by (conv => lhs; whnf); first | done | rfl) (fun hc17 => ?_) (fun hc17 => ?_)
    · refine c_seq ?_
      refine c_region ?_
      refine x_bld rfl .nil rfl ?_
      refine x_stw rfl (by (conv => lhs; whnf); first | done | rfl) (by (conv => lhs; whnf); first | done | rfl) rfl rfl (by first | exact HasC.out | exact PutC.out | repeat (first | exact .here | apply Has.there | apply Put.there | apply Has.app | apply Put.app)) rfl ?_
      refine w_asg rfl (by (conv => lhs; whnf); first | done | rfl) ?_
      refine w_asg rfl (by (conv => lhs; whnf); first | done | rfl) ?_
      refine w_nil ?_
      refine tq_n ?_
      refine c_ret ?_
      refine tq_r ?_
      exact rq_r (ra_c (by (conv => lhs; whnf); first | done | rfl) (by first | exact HasC.out | exact PutC.out | repeat (first | exact .here | apply Has.there | apply Put.there | apply Has.app | apply Put.app)) rfl (ra_t (by (conv => lhs; whnf); first | done | rfl) (ra_t (by (conv => lhs; whnf); first | done | rfl) .nil))) (by first | exact SubL.out | repeat (first | exact List.Sublist.refl _ | exact List.nil_sublist _ | refine .cons_cons _ ?_ | refine .cons _ ?_ | refine List.Sublist.append (List.Sublist.refl _) ?_ | exact List.sublist_append_left _ _ | refine List.Sublist.trans ?_ (List.sublist_append_right _ _))) (DrR_inl (e := 51) (by unfold drop1; simp only [if_pos hm]; exact if_pos (.inl (by omega))) rfl)
    · have h0 : 0 < t.lo.length := (by omega)
      obtain ⟨Ap, cp, hpc, hpl, hpA, hpR, hpI, hph, hpv⟩ := hlR 0 _ (getN h0)
      have hdp : hdPg t = (t.lo[0]'h0).pg := (by unfold hdPg; rw [headD_of h0])
      refine c_skip ?_
      refine tq_n ?_
      refine c_seq ?_
      refine c_seq ?_
      refine c_region ?_
      refine w_asg rfl (by (conv => lhs; whnf); first | done | rfl) ?_
      refine w_nil ?_
      refine tq_n ?_
      refine c_block ?_
      refine c_loop_ov [19, 20, 21, 22, 23, 24, 25, 26, 29, 30, 31, 32, 33, 34, 35, 36, 37, 38, 3, 4, 27, 28, 6] (fun m s L => ∃ (j : Nat), j ≤ (t.lo[0]'h0).pg.length ∧ (∀ x ∈ (t.lo[0]'h0).pg.take j, isN x = false) ∧ m = (t.lo[0]'h0).pg.length - j ∧ s = [(6, .int .i64 j)] ∧ L = [(b2, B 43 zT), (b1, B 43 (cT t Ad cd Ah ch Al cl))]) ((t.lo[0]'h0).pg.length) [(6, .int .i64 (0 : Nat))] (by repeat (first | exact .nil | refine .cons rfl ?_)) (by first | exact SubL.out | repeat (first | exact List.Sublist.refl _ | exact List.nil_sublist _ | refine .cons_cons _ ?_ | refine .cons _ ?_ | refine List.Sublist.append (List.Sublist.refl _) ?_ | exact List.sublist_append_left _ _ | refine List.Sublist.trans ?_ (List.sublist_append_right _ _))) (⟨0, by omega, by simp, by omega, rfl, rfl⟩) ?_
      rintro mI sI LI gL0 ⟨j, hj, hv, rfl, rfl, rfl⟩
      refine c_seq ?_
      refine c_seq ?_
      refine c_region ?_
      refine w_mov rfl (by (conv => lhs; whnf); first | done | rfl) ?_
      refine x_fa rfl (by (conv => lhs; whnf); first | done | rfl) ?_
      refine x_ldo rfl (by (conv => lhs; whnf); first | done | rfl) (by first | exact HasC.out | exact PutC.out | repeat (first | exact .here | apply Has.there | apply Put.there | apply Has.app | apply Put.app)) (by (conv => lhs; whnf); first | done | rfl) ?_
      refine x_ixA rfl (by (conv => lhs; whnf); first | done | rfl) (by (conv => lhs; whnf); first | done | rfl) (hlA (ne_of_lt h0)) (by omega) (by omega) ?_
      refine x_fa rfl (by (conv => lhs; whnf); first | done | rfl) ?_
      refine x_ld rfl (by (conv => lhs; whnf); first | done | rfl) (hpv.sub (List.nil_sublist _)) ?_
      refine x_len rfl (by (conv => lhs; whnf); first | done | rfl) ?_
      refine w_lss rfl (by (conv => lhs; whnf); first | done | rfl) (by (conv => lhs; whnf); first | done | rfl) ?_
      refine w_nil ?_
      refine tq_n ?_
      refine c_cond_d (by (conv => lhs; whnf); first | done | rfl) (fun hc26 => ?_) (fun hc26 => ?_)
      · have hjlt : j < (t.lo[0]'h0).pg.length := by omega
        refine c_skip ?_
        refine tq_n ?_
        refine c_seq ?_
        refine c_block ?_
        refine c_seq ?_
        refine c_region ?_
        refine x_fa rfl (by (conv => lhs; whnf); first | done | rfl) ?_
        refine x_ldo rfl (by (conv => lhs; whnf); first | done | rfl) (by first | exact HasC.out | exact PutC.out | repeat (first | exact .here | apply Has.there | apply Put.there | apply Has.app | apply Put.app)) (by (conv => lhs; whnf); first | done | rfl) ?_
        refine x_ixA rfl (by (conv => lhs; whnf); first | done | rfl) (by (conv => lhs; whnf); first | done | rfl) (hlA (ne_of_lt h0)) (by omega) (by omega) ?_
        refine x_fa rfl (by (conv => lhs; whnf); first | done | rfl) ?_
        refine x_ld rfl (by (conv => lhs; whnf); first | done | rfl) (hpv.sub (List.nil_sublist _)) ?_
        refine w_mov rfl (by (conv => lhs; whnf); first | done | rfl) ?_
        refine x_ixA rfl (by (conv => lhs; whnf); first | done | rfl) (by (conv => lhs; whnf); first | done | rfl) (hpA (ne_of_lt hjlt)) (by omega) (by omega) ?_
        refine x_ld rfl (by (conv => lhs; whnf); first | done | rfl) (rdI (j := (j : Int)) hpR (getN hjlt)) ?_
        refine w_geq rfl (by (conv => lhs; whnf); first | done | rfl) (by (conv => lhs; whnf); first | done | rfl) ?_
        refine w_nil ?_
        refine tq_n ?_
        refine c_cond_d (by (conv => lhs; whnf); first | done | rfl) (fun hc37 => ?_) (fun hc37 => ?_)
        · refine c_seq ?_
          refine c_region ?_
          refine x_bld rfl .nil rfl ?_
          refine x_stw rfl (by (conv => lhs; whnf); first | done | rfl) (by (conv => lhs; whnf); first | done | rfl) rfl rfl (by first | exact HasC.out | exact PutC.out | repeat (first | exact .here | apply Has.there | apply Put.there | apply Has.app | apply Put.app)) rfl ?_
          refine w_asg rfl (by (conv => lhs; whnf); first | done | rfl) ?_
          refine w_asg rfl (by (conv => lhs; whnf); first | done | rfl) ?_
          refine w_nil ?_
          refine tq_n ?_
          refine c_ret ?_
          refine bq_r ?_
          refine tq_r ?_
          refine tq_r ?_
          refine bq_r ?_
          refine tq_r ?_
          exact rq_r (ra_c (by (conv => lhs; whnf); first | done | rfl) (by first | exact HasC.out | exact PutC.out | repeat (first | exact .here | apply Has.there | apply Put.there | apply Has.app | apply Put.app)) rfl (ra_t (by (conv => lhs; whnf); first | done | rfl) (ra_t (by (conv => lhs; whnf); first | done | rfl) .nil))) (by first | exact SubL.out | repeat (first | exact List.Sublist.refl _ | exact List.nil_sublist _ | refine .cons_cons _ ?_ | refine .cons _ ?_ | refine List.Sublist.append (List.Sublist.refl _) ?_ | exact List.sublist_append_left _ _ | refine List.Sublist.trans ?_ (List.sublist_append_right _ _))) (DrR_inl (e := 51) (by unfold drop1; simp only [if_pos hm]; exact if_pos (.inr (by rw [hdp]; exact List.any_eq_true.2 ⟨_, List.getElem_mem hjlt, decide_eq_true hc37⟩))) rfl)
        · refine c_skip ?_
          refine bq_n ?_
          refine tq_n ?_
          refine c_region ?_
          refine w_mov rfl (by (conv => lhs; whnf); first | done | rfl) ?_
          refine w_add rfl (by (conv => lhs; whnf); first | done | rfl) (by (conv => lhs; whnf); first | done | rfl) (by omega) ?_
          refine w_asg rfl (by (conv => lhs; whnf); first | done | rfl) ?_
          refine w_nil ?_
          refine tq_n ?_
          exact ⟨(by first | ((repeat (first | with_reducible exact Ag.refl | with_reducible exact Ag.ov | (with_reducible refine Ag.upd ?_ ?_; exact rfl) | with_reducible refine Ag.putn ?_ | (with_reducible refine Ag.ovs ?_ ?_; exact rfl))); done) | (repeat (first | exact Ag.refl | exact Ag.ov | (refine Ag.upd ?_ ?_; exact rfl) | refine Ag.putn ?_ | (refine Ag.ovs ?_ ?_; exact rfl)))), (t.lo[0]'h0).pg.length - (j + 1), [(6, .int .i64 ((j + 1 : Nat) : Int))], _, by omega, (by first | exact SubL.out | repeat (first | exact List.Sublist.refl _ | exact List.nil_sublist _ | refine .cons_cons _ ?_ | refine .cons _ ?_ | refine List.Sublist.append (List.Sublist.refl _) ?_ | exact List.sublist_append_left _ _ | refine List.Sublist.trans ?_ (List.sublist_append_right _ _))), (by repeat (first | exact .nil | refine .cons rfl ?_)), ⟨j + 1, by omega, all_take_succ hjlt hv (decide_eq_false hc37), rfl, rfl, rfl⟩⟩
      · have hnd : ¬ noDrop t := (by rintro (e | e); (omega); (rw [hdp, any_take (by omega) hv] at e; cases e))
        have hdr : drop1 t = .inr ({ t with lo := t.lo.tail }, (t.lo.headD ⟨0, []⟩).ph) := (by unfold drop1; simp only [if_pos hm, if_neg hnd])
        refine c_exit ?_
        refine tq_e ?_
        refine tq_e ?_
        refine bq_e ?_
        refine tq_n ?_
        refine c_seq ?_
        refine c_region ?_
        refine x_ldao rfl (by (conv => lhs; whnf); first | done | rfl) (by first | exact HasC.out | exact PutC.out | repeat (first | exact .here | apply Has.there | apply Put.there | apply Has.app | apply Put.app)) rfl ?_
        refine x_call (clonr_g (hT.sub (List.nil_sublist _)) hcl.b) rfl rfl rfl ?_
        rintro _ _ ⟨S, rfl, Sv, Sp, Sd, Sh, rfl, vd2, vh2, vl2, lv, rfl, g1, g2, g3, g4⟩
        obtain ⟨Ad2, cd2, rfl, _⟩ := g1.form
        obtain ⟨Ah2, ch2, rfl, _⟩ := g2.form
        obtain ⟨Al2, cl2, rfl, hcl2, hAl, hRl⟩ := logs_opn g3 g4.len hcl.2.2.1
        simp only [List.append_assoc]
        refine x_al rfl ?_
        intro b7
        refine x_stw rfl (by (conv => lhs; whnf); first | done | rfl) (by (conv => lhs; whnf); first | done | rfl) rfl rfl (by first | exact HasC.out | exact PutC.out | repeat (first | exact .here | apply Has.there | apply Put.there | apply Has.app | apply Put.app)) rfl ?_
        refine w_nil ?_
        refine tq_n ?_
        refine c_seq ?_
        refine c_region ?_
        refine x_fa rfl (by (conv => lhs; whnf); first | done | rfl) ?_
        refine x_ldo rfl (by (conv => lhs; whnf); first | done | rfl) (by first | exact HasC.out | exact PutC.out | repeat (first | exact .here | apply Has.there | apply Put.there | apply Has.app | apply Put.app)) (by (conv => lhs; whnf); first | done | rfl) ?_
        refine x_sl (l := 1) (h := t.lo.length) rfl (by (conv => lhs; whnf); first | done | rfl) (⟨rfl, rfl⟩) (by omega) (by omega) ?_
        refine x_fa rfl (by (conv => lhs; whnf); first | done | rfl) ?_
        refine x_st1 rfl (by (conv => lhs; whnf); first | done | rfl) (by (conv => lhs; whnf); first | done | rfl) rfl (by first | exact HasC.out | exact PutC.out | repeat (first | exact .here | apply Has.there | apply Put.there | apply Has.app | apply Put.app)) rfl ?_
        refine w_nil ?_
        refine tq_n ?_
        refine c_seq ?_
        refine d_begin_s ((show List.Sublist [(b7, _), (b1, _)] _ from (by first | exact SubL.out | repeat (first | exact List.Sublist.refl _ | exact List.nil_sublist _ | refine .cons_cons _ ?_ | refine .cons _ ?_ | refine List.Sublist.append (List.Sublist.refl _) ?_ | exact List.sublist_append_left _ _ | refine List.Sublist.trans ?_ (List.sublist_append_right _ _))))) [] mixed ?_
        refine d_tk 0 (np_then np_ret) rfl (by kernel_rfl) (by kernel_rfl) (by kernel_rfl) (by kernel_rfl) (by kernel_rfl) (by first | exact SubL.out | repeat (first | exact List.Sublist.refl _ | exact List.nil_sublist _ | refine .cons_cons _ ?_ | refine .cons _ ?_ | refine List.Sublist.append (List.Sublist.refl _) ?_ | exact List.sublist_append_left _ _ | refine List.Sublist.trans ?_ (List.sublist_append_right _ _))) ?_
        refine x_ldao rfl (by (conv => lhs; whnf); first | done | rfl) (by first | exact HasC.out | exact PutC.out | repeat (first | exact .here | apply Has.there | apply Put.there | apply Has.app | apply Put.app)) rfl ?_
        refine w_nil ⟨rfl, rfl, ?_⟩
        refine d_tk0 1 (np_then np_ret) rfl (by kernel_rfl) (by kernel_rfl) (by kernel_rfl) (by kernel_rfl) (.inl (by first | exact SubL.out | repeat (first | exact List.Sublist.refl _ | exact List.nil_sublist _ | refine .cons_cons _ ?_ | refine .cons _ ?_ | refine List.Sublist.append (List.Sublist.refl _) ?_ | exact List.sublist_append_left _ _ | refine List.Sublist.trans ?_ (List.sublist_append_right _ _)))) ?_
        refine x_fa rfl (by (conv => lhs; whnf); first | done | rfl) ?_
        refine w_nil ⟨rfl, rfl, ?_⟩
        refine d_tk 2 (np_then np_ret) rfl (by kernel_rfl) (by kernel_rfl) (by kernel_rfl) (by kernel_rfl) (by kernel_rfl) (by first | exact SubL.out | repeat (first | exact List.Sublist.refl _ | exact List.nil_sublist _ | refine .cons_cons _ ?_ | refine .cons _ ?_ | refine List.Sublist.append (List.Sublist.refl _) ?_ | exact List.sublist_append_left _ _ | refine List.Sublist.trans ?_ (List.sublist_append_right _ _))) ?_
        refine x_ldo rfl (by (conv => lhs; whnf); first | done | rfl) (by first | exact HasC.out | exact PutC.out | repeat (first | exact .here | apply Has.there | apply Put.there | apply Has.app | apply Put.app)) (by (conv => lhs; whnf); first | done | rfl) ?_
        refine w_nil ⟨rfl, rfl, ?_⟩
        refine d_tk0 3 (np_then np_ret) rfl (by kernel_rfl) (by kernel_rfl) (by kernel_rfl) (by kernel_rfl) (.inl (by first | exact SubL.out | repeat (first | exact List.Sublist.refl _ | exact List.nil_sublist _ | refine .cons_cons _ ?_ | refine .cons _ ?_ | refine List.Sublist.append (List.Sublist.refl _) ?_ | exact List.sublist_append_left _ _ | refine List.Sublist.trans ?_ (List.sublist_append_right _ _)))) ?_
        refine x_ixA rfl (by (conv => lhs; whnf); first | done | rfl) (by (conv => lhs; whnf); first | done | rfl) (hlA (ne_of_lt h0)) (by omega) (by omega) ?_
        refine w_nil ⟨rfl, rfl, ?_⟩
        refine d_tk0 4 (np_then np_ret) rfl (by kernel_rfl) (by kernel_rfl) (by kernel_rfl) (by kernel_rfl) (.inl (by first | exact SubL.out | repeat (first | exact List.Sublist.refl _ | exact List.nil_sublist _ | refine .cons_cons _ ?_ | refine .cons _ ?_ | refine List.Sublist.append (List.Sublist.refl _) ?_ | exact List.sublist_append_left _ _ | refine List.Sublist.trans ?_ (List.sublist_append_right _ _)))) ?_
        refine x_fa rfl (by (conv => lhs; whnf); first | done | rfl) ?_
        refine w_nil ⟨rfl, rfl, ?_⟩
        refine d_tk 5 (np_then np_ret) rfl (by kernel_rfl) (by kernel_rfl) (by kernel_rfl) (by kernel_rfl) (by kernel_rfl) (by first | exact SubL.out | repeat (first | exact List.Sublist.refl _ | exact List.nil_sublist _ | refine .cons_cons _ ?_ | refine .cons _ ?_ | refine List.Sublist.append (List.Sublist.refl _) ?_ | exact List.sublist_append_left _ _ | refine List.Sublist.trans ?_ (List.sublist_append_right _ _))) ?_
        refine x_ld rfl (by (conv => lhs; whnf); first | done | rfl) (hph.sub (List.nil_sublist _)) ?_
        refine w_nil ⟨rfl, rfl, ?_⟩
        refine d_one 6 rfl (by kernel_rfl) ?_
        refine x_stw rfl (by (conv => lhs; whnf); first | done | rfl) (by (conv => lhs; whnf); first | done | rfl) rfl rfl (by first | exact HasC.out | exact PutC.out | repeat (first | exact .here | apply Has.there | apply Put.there | apply Has.app | apply Put.app)) rfl ?_
        refine w_nil ⟨rfl, (.inl (by first | exact SubL.out | repeat (first | exact List.Sublist.refl _ | exact List.nil_sublist _ | refine .cons_cons _ ?_ | refine .cons _ ?_ | refine List.Sublist.append (List.Sublist.refl _) ?_ | exact List.sublist_append_left _ _ | refine List.Sublist.trans ?_ (List.sublist_append_right _ _)))), ?_⟩
        refine d_tk0 7 (np_then np_ret) rfl (by kernel_rfl) (by kernel_rfl) (by kernel_rfl) (by kernel_rfl) (.inl (by first | exact SubL.out | repeat (first | exact List.Sublist.refl _ | exact List.nil_sublist _ | refine .cons_cons _ ?_ | refine .cons _ ?_ | refine List.Sublist.append (List.Sublist.refl _) ?_ | exact List.sublist_append_left _ _ | refine List.Sublist.trans ?_ (List.sublist_append_right _ _)))) ?_
        refine w_asg rfl (by (conv => lhs; whnf); first | done | rfl) ?_
        refine w_nil ⟨rfl, rfl, ?_⟩
        refine d_tk0 8 (np_then np_ret) rfl (by kernel_rfl) (by kernel_rfl) (by kernel_rfl) (by kernel_rfl) (.inl (by first | exact SubL.out | repeat (first | exact List.Sublist.refl _ | exact List.nil_sublist _ | refine .cons_cons _ ?_ | refine .cons _ ?_ | refine List.Sublist.append (List.Sublist.refl _) ?_ | exact List.sublist_append_left _ _ | refine List.Sublist.trans ?_ (List.sublist_append_right _ _)))) ?_
        refine w_asg rfl (by (conv => lhs; whnf); first | done | rfl) ?_
        refine w_nil ⟨rfl, rfl, ?_⟩
        refine d_done (by kernel_rfl) ?_
        refine tq_n ?_
        refine c_ret ?_
        exact rq_r (ra_c (by (conv => lhs; whnf); first | done | rfl) (by first | exact HasC.out | exact PutC.out | repeat (first | exact .here | apply Has.there | apply Put.there | apply Has.app | apply Put.app)) rfl (ra_t (by (conv => lhs; whnf); first | done | rfl) (ra_t (by (conv => lhs; whnf); first | done | rfl) .nil))) (by first | exact SubL.out | repeat (first | exact List.Sublist.refl _ | exact List.nil_sublist _ | refine .cons_cons _ ?_ | refine .cons _ ?_ | refine List.Sublist.append (List.Sublist.refl _) ?_ | exact List.sublist_append_left _ _ | refine List.Sublist.trans ?_ (List.sublist_append_right _ _))) (DrR_inr (S := Sv ++ (Sp ++ (Sh ++ Sd))) hdr (by rw [headD_of h0]; rfl) (fun w0 L hs => ⟨_, _, _, rfl, SlR.ofOSl g1 rfl (by have := hcl.1; omega) (List.Sublist.trans (by first | exact SubL.out | repeat (first | exact List.Sublist.refl _ | exact List.nil_sublist _ | refine .cons_cons _ ?_ | refine .cons _ ?_ | refine List.Sublist.append (List.Sublist.refl _) ?_ | exact List.sublist_append_left _ _ | refine List.Sublist.trans ?_ (List.sublist_append_right _ _))) hs), SlR.ofOSl g2 rfl (by have := hcl.2.1; omega) (List.Sublist.trans (by first | exact SubL.out | repeat (first | exact List.Sublist.refl _ | exact List.nil_sublist _ | refine .cons_cons _ ?_ | refine .cons _ ?_ | refine List.Sublist.append (List.Sublist.refl _) ?_ | exact List.sublist_append_left _ _ | refine List.Sublist.trans ?_ (List.sublist_append_right _ _))) hs), drop_logR g3 g4 rfl h0 hcl.2.2.1 (List.Sublist.trans (by first | exact SubL.out | repeat (first | exact List.Sublist.refl _ | exact List.nil_sublist _ | refine .cons_cons _ ?_ | refine .cons _ ?_ | refine List.Sublist.append (List.Sublist.refl _) ?_ | exact List.sublist_append_left _ _ | refine List.Sublist.trans ?_ (List.sublist_append_right _ _))) hs) (List.Sublist.trans (by first | exact SubL.out | repeat (first | exact List.Sublist.refl _ | exact List.nil_sublist _ | refine .cons_cons _ ?_ | refine .cons _ ?_ | refine List.Sublist.append (List.Sublist.refl _) ?_ | exact List.sublist_append_left _ _ | refine List.Sublist.trans ?_ (List.sublist_append_right _ _))) hs)⟩))
set_option maxHeartbeats 4000000 in
theorem putr_g {v : Value} {t : Tb} {k b p : Int} (h : TabR w0 L v t) : Gives Try.prog w0 L 24 [v, .agg #[.int .i64 k, .int .i64 b], .int .i64 p] (fun v' L' => ∃ S, L' = S ++ L ∧ PutR (put t k p) v' S) := by
  refine enterB (R := PutR (put t k p)) Try.func24 rfl Try.ntmps24 Try.results24 (Nat.le_of_ble_eq_true rfl) fun w hM => ?_
  have hT := h.at hM
  obtain ⟨vd, vh, vl, rfl, hd, hh, hlo⟩ := ((h).at hM).ex; obtain ⟨Ad, cd, rfl, hdc, hdl, hdA, hdR⟩ := id hd.ex; obtain ⟨Ah, ch, rfl, hhc, hhl, hhA, hhR⟩ := id hh.ex; obtain ⟨Al, cl, rfl, hlc, hll, hlA, hlR⟩ := LogR.opn hlo
  clear hM
  refine c_seq ?_
  refine c_region ?_
  refine x_boxa rfl (by (conv => lhs; whnf); first | done | rfl) ?_
  intro b3
  refine x_boxa rfl (by (conv => lhs; whnf); first | done | rfl) ?_
  intro b4
  refine x_al rfl ?_
  intro b6
  refine x_al rfl ?_
  intro b7
  refine w_asg rfl (by (conv => lhs; whnf); first | done | rfl) ?_
  refine w_nil ?_
  refine tq_n ?_
  refine c_seq ?_
  refine c_seq ?_
  refine c_region ?_
  refine x_ldao rfl (by (conv => lhs; whnf); first | done | rfl) (by first | exact HasC.out | exact PutC.out | repeat (first | exact .here | apply Has.there | apply Put.there | apply Has.app | apply Put.app)) rfl ?_
  refine x_callp (by decide) (checkr_g (hT.sub (List.nil_sublist _))) rfl rfl rfl ?_
  refine w_asg rfl (by (conv => lhs; whnf); first | done | rfl) ?_
  refine w_nil ?_
  refine tq_n ?_
  refine c_seq ?_
  refine c_region ?_
  refine w_mov rfl (by (conv => lhs; whnf); first | done | rfl) ?_
  refine w_neq rfl (by (conv => lhs; whnf); first | done | rfl) (by (conv => lhs; whnf); first | done | rfl) ?_
  refine w_nil ?_
  refine tq_n ?_
  refine c_cond_d (by (conv => lhs; whnf); first | done | rfl) (fun hc17 => ?_) (fun hc17 => ?_)
  · have hm : ¬ May t := fun hm => hc17 (if_pos hm)
    refine c_seq ?_
    refine c_region ?_
    refine x_bld rfl .nil rfl ?_
    refine x_bld rfl .nil rfl ?_
    refine w_mov rfl (by (conv => lhs; whnf); first | done | rfl) ?_
    refine x_stw rfl (by (conv => lhs; whnf); first | done | rfl) (by (conv => lhs; whnf); first | done | rfl) rfl rfl (by first | exact HasC.out | exact PutC.out | repeat (first | exact .here | apply Has.there | apply Put.there | apply Has.app | apply Put.app)) rfl ?_
    refine x_stw rfl (by (conv => lhs; whnf); first | done | rfl) (by (conv => lhs; whnf); first | done | rfl) rfl rfl (by first | exact HasC.out | exact PutC.out | repeat (first | exact .here | apply Has.there | apply Put.there | apply Has.app | apply Put.app)) rfl ?_
    refine w_asg rfl (by (conv => lhs; whnf); first | done | rfl) ?_
    refine w_nil ?_
    refine tq_n ?_
    refine c_ret ?_
    refine tq_r ?_
    exact rq_r (ra_c (by (conv => lhs; whnf); first | done | rfl) (by first | exact HasC.out | exact PutC.out | repeat (first | exact .here | apply Has.there | apply Put.there | apply Has.app | apply Put.app)) rfl (ra_c (by (conv => lhs; whnf); first | done | rfl) (by first | exact HasC.out | exact PutC.out | repeat (first | exact .here | apply Has.there | apply Put.there | apply Has.app | apply Put.app)) rfl (ra_t (by (conv => lhs; whnf); first | done | rfl) .nil))) (by first | exact SubL.out | repeat (first | exact List.Sublist.refl _ | exact List.nil_sublist _ | refine .cons_cons _ ?_ | refine .cons _ ?_ | refine List.Sublist.append (List.Sublist.refl _) ?_ | exact List.sublist_append_left _ _ | refine List.Sublist.trans ?_ (List.sublist_append_right _ _))) (PutR_inl (e := 50) (by unfold put; simp only [if_neg hm]) (by simp only [if_neg hm]; rfl))
  · have hm : May t := Decidable.byContradiction fun hm => hc17 (by rw [if_neg hm]; decide)
    have hLi := hm.1
    have hcl := hLi.cl
    have hP : 4 ≤ t.P := hLi.1.1.1.1
    have hP2 := hLi.1.1.1.2
    have hGP := gp_le hLi.1.1
    have hsq := hLi.2.2
    have hh3 := hLi.1.2.2.1
    refine c_skip ?_
    refine tq_n ?_
    refine c_seq ?_
    refine c_seq ?_
    refine c_region ?_
    refine x_ldao rfl (by (conv => lhs; whnf); first | done | rfl) (by first | exact HasC.out | exact PutC.out | repeat (first | exact .here | apply Has.there | apply Put.there | apply Has.app | apply Put.app)) rfl ?_
    refine w_mov rfl (by (conv => lhs; whnf); first | done | rfl) ?_
    refine x_callp (by decide) (therer_g (p := p) (hT.sub (List.nil_sublist _)) hLi) rfl rfl rfl ?_
    refine w_notd rfl (by (conv => lhs; whnf); first | done | rfl) ?_
    refine w_nil ?_
    refine tq_n ?_
    refine c_cond_d (by (conv => lhs; whnf); first | done | rfl) (fun hc24 => ?_) (fun hc24 => ?_)
    · refine c_seq ?_
      refine c_region ?_
      refine x_bld rfl .nil rfl ?_
      refine x_bld rfl .nil rfl ?_
      refine x_stw rfl (by (conv => lhs; whnf); first | done | rfl) (by (conv => lhs; whnf); first | done | rfl) rfl rfl (by first | exact HasC.out | exact PutC.out | repeat (first | exact .here | apply Has.there | apply Put.there | apply Has.app | apply Put.app)) rfl ?_
      refine x_stw rfl (by (conv => lhs; whnf); first | done | rfl) (by (conv => lhs; whnf); first | done | rfl) rfl rfl (by first | exact HasC.out | exact PutC.out | repeat (first | exact .here | apply Has.there | apply Put.there | apply Has.app | apply Put.app)) rfl ?_
      refine w_asg rfl (by (conv => lhs; whnf); first | done | rfl) ?_
      refine w_nil ?_
      refine tq_n ?_
      refine c_ret ?_
      refine tq_r ?_
      exact rq_r (ra_c (by (conv => lhs; whnf); first | done | rfl) (by first | exact HasC.out | exact PutC.out | repeat (first | exact .here | apply Has.there | apply Put.there | apply Has.app | apply Put.app)) rfl (ra_c (by (conv => lhs; whnf); first | done | rfl) (by first | exact HasC.out | exact PutC.out | repeat (first | exact .here | apply Has.there | apply Put.there | apply Has.app | apply Put.app)) rfl (ra_t (by (conv => lhs; whnf); first | done | rfl) .nil))) (by first | exact SubL.out | repeat (first | exact List.Sublist.refl _ | exact List.nil_sublist _ | refine .cons_cons _ ?_ | refine .cons _ ?_ | refine List.Sublist.append (List.Sublist.refl _) ?_ | exact List.sublist_append_left _ _ | refine List.Sublist.trans ?_ (List.sublist_append_right _ _))) (PutR_inl (e := 1) (by unfold put; simp only [if_pos hm, if_neg hc24]) rfl)
    · have hin := Decidable.not_not.1 hc24
      have hput : put t k p = putA t k p := (by unfold put; simp only [if_pos hm, if_pos hin])
      refine c_skip ?_
      refine tq_n ?_
      refine c_seq ?_
      refine c_draw mixed (by kernel_rfl) ?_
      refine w_mov rfl (by (conv => lhs; whnf); first | done | rfl) ?_
      refine x_fa rfl (by (conv => lhs; whnf); first | done | rfl) ?_
      refine x_ldo rfl (by (conv => lhs; whnf); first | done | rfl) (by first | exact HasC.out | exact PutC.out | repeat (first | exact .here | apply Has.there | apply Put.there | apply Has.app | apply Put.app)) (by (conv => lhs; whnf); first | done | rfl) ?_
      refine w_quo rfl (by (conv => lhs; whnf); first | done | rfl) (by (conv => lhs; whnf); first | done | rfl) (by omega) (by omega) (by omega) ?_
      refine w_mov rfl (by (conv => lhs; whnf); first | done | rfl) ?_
      refine x_fa rfl (by (conv => lhs; whnf); first | done | rfl) ?_
      refine x_ldo rfl (by (conv => lhs; whnf); first | done | rfl) (by first | exact HasC.out | exact PutC.out | repeat (first | exact .here | apply Has.there | apply Put.there | apply Has.app | apply Put.app)) (by (conv => lhs; whnf); first | done | rfl) ?_
      refine w_rem rfl (by (conv => lhs; whnf); first | done | rfl) (by (conv => lhs; whnf); first | done | rfl) (by omega) (by omega) ?_
      refine w_asg rfl (by (conv => lhs; whnf); first | done | rfl) ?_
      refine w_asg rfl (by (conv => lhs; whnf); first | done | rfl) ?_
      refine w_nil ?_
      refine tq_n ?_
      refine c_seq ?_
      refine c_region ?_
      refine x_ldao rfl (by (conv => lhs; whnf); first | done | rfl) (by first | exact HasC.out | exact PutC.out | repeat (first | exact .here | apply Has.there | apply Put.there | apply Has.app | apply Put.app)) rfl ?_
      refine x_call (clonr_g (hT.sub (List.nil_sublist _)) hcl.b) rfl rfl rfl ?_
      rintro _ _ ⟨S, rfl, Sv, Sp, Sd, Sh, rfl, vd2, vh2, vl2, lv, rfl, g1, g2, g3, g4⟩
      obtain ⟨Ad2, cd2, rfl, _⟩ := g1.form
      obtain ⟨Ah2, ch2, rfl, _⟩ := g2.form
      obtain ⟨Al2, cl2, rfl, hcl2, hAl, hRl⟩ := logs_opn g3 g4.len hcl.2.2.1
      simp only [List.append_assoc]
      refine w_mov rfl (by (conv => lhs; whnf); first | done | rfl) ?_
      refine w_mov rfl (by (conv => lhs; whnf); first | done | rfl) ?_
      refine w_add rfl (by (conv => lhs; whnf); first | done | rfl) (by (conv => lhs; whnf); first | done | rfl) (by omega) ?_
      refine x_call (without_g hin.1 ⟨_, _, _, rfl⟩ ⟨_, _, _, rfl⟩ hcl.2.2.1 g3 g4) rfl rfl rfl ?_
      rintro _ _ ⟨rfl, Sp', rfl, hW⟩
      rw [fgt_rng1] at hW
      refine x_al rfl ?_
      intro b12
      refine x_stw rfl (by (conv => lhs; whnf); first | done | rfl) (by (conv => lhs; whnf); first | done | rfl) rfl rfl (by first | exact HasC.out | exact PutC.out | repeat (first | exact .here | apply Has.there | apply Put.there | apply Has.app | apply Put.app)) rfl ?_
      refine w_nil ?_
      refine tq_n ?_
      refine c_seq ?_
      refine c_seq ?_
      refine c_region_j [41, 42, 43, 44, 45, 46, 47, 48, 49, 50, 51, 52, 53, 54, 55, 56, 57, 58, 59, 60, 61, 62, 63] 63 (.bool (decide (putSq t k p))) ?_ (fun g8 => ?_)
      · all_goals (refine x_fa rfl (by (conv => lhs; whnf); first | done | rfl) ?_)
        all_goals (refine x_ldo rfl (by (conv => lhs; whnf); first | done | rfl) (by first | exact HasC.out | exact PutC.out | repeat (first | exact .here | apply Has.there | apply Put.there | apply Has.app | apply Put.app)) (by (conv => lhs; whnf); first | done | rfl) ?_)
        all_goals (refine w_eql rfl (by (conv => lhs; whnf); first | done | rfl) (by (conv => lhs; whnf); first | done | rfl) ?_)
        all_goals (refine w_mov rfl (by (conv => lhs; whnf); first | done | rfl) ?_)
        all_goals (first | refine w_lit true rfl rfl rfl ?_ | refine w_lit false rfl rfl rfl ?_ | refine w_cases_od rfl rfl rfl (fun hg => ?_) (fun hg => ?_) | refine w_cases_o rfl rfl rfl (fun hg => ?_) (fun hg => ?_) | skip)
        all_goals (first | refine w_skip rfl ?_ | (refine x_fa rfl (by (conv => lhs; whnf); first | done | rfl) ?_))
        all_goals (first | refine w_skip rfl ?_ | (refine x_fa rfl (by (conv => lhs; whnf); first | done | rfl) ?_))
        all_goals (first | refine w_skip rfl ?_ | (refine x_ldo rfl (by (conv => lhs; whnf); first | done | rfl) (by first | exact HasC.out | exact PutC.out | repeat (first | exact .here | apply Has.there | apply Put.there | apply Has.app | apply Put.app)) (by (conv => lhs; whnf); first | done | rfl) ?_))
        all_goals (first | refine w_skip rfl ?_ | (refine w_geq rfl (by (conv => lhs; whnf); first | done | rfl) (by (conv => lhs; whnf); first | done | rfl) ?_))
        all_goals (first | refine w_pick_t rfl rfl (by (conv => lhs; whnf); first | done | rfl) ?_ | refine w_pick_f rfl rfl (by (conv => lhs; whnf); first | done | rfl) ?_)
        all_goals (refine w_mov rfl (by (conv => lhs; whnf); first | done | rfl) ?_)
        all_goals (first | refine w_lit true rfl rfl rfl ?_ | refine w_lit false rfl rfl rfl ?_ | refine w_cases_od rfl rfl rfl (fun hg => ?_) (fun hg => ?_) | refine w_cases_o rfl rfl rfl (fun hg => ?_) (fun hg => ?_) | skip)
        all_goals (first | refine w_skip rfl ?_ | (refine x_fa rfl (by (conv => lhs; whnf); first | done | rfl) ?_))
        all_goals (first | refine w_skip rfl ?_ | (refine x_fa rfl (by (conv => lhs; whnf); first | done | rfl) ?_))
        all_goals (first | refine w_skip rfl ?_ | (refine x_ldo rfl (by (conv => lhs; whnf); first | done | rfl) (by first | exact HasC.out | exact PutC.out | repeat (first | exact .here | apply Has.there | apply Put.there | apply Has.app | apply Put.app)) (by (conv => lhs; whnf); first | done | rfl) ?_))
        all_goals (first | refine w_skip rfl ?_ | (refine w_mov rfl (by (conv => lhs; whnf); first | done | rfl) ?_))
        all_goals (first | refine w_skip rfl ?_ | (refine w_eql rfl (by (conv => lhs; whnf); first | done | rfl) (by (conv => lhs; whnf); first | done | rfl) ?_))
        all_goals (first | refine w_pick_t rfl rfl (by (conv => lhs; whnf); first | done | rfl) ?_ | refine w_pick_f rfl rfl (by (conv => lhs; whnf); first | done | rfl) ?_)
        all_goals (refine w_mov rfl (by (conv => lhs; whnf); first | done | rfl) ?_)
        all_goals (first | refine w_lit true rfl rfl rfl ?_ | refine w_lit false rfl rfl rfl ?_ | refine w_cases_od rfl rfl rfl (fun hg => ?_) (fun hg => ?_) | refine w_cases_o rfl rfl rfl (fun hg => ?_) (fun hg => ?_) | skip)
        all_goals (first | refine w_skip rfl ?_ | (refine x_fa rfl (by (conv => lhs; whnf); first | done | rfl) ?_))
        all_goals (first | refine w_skip rfl ?_ | (refine x_fa rfl (by (conv => lhs; whnf); first | done | rfl) ?_))
        all_goals (first | refine w_skip rfl ?_ | (refine x_ldo rfl (by (conv => lhs; whnf); first | done | rfl) (by first | exact HasC.out | exact PutC.out | repeat (first | exact .here | apply Has.there | apply Put.there | apply Has.app | apply Put.app)) (by (conv => lhs; whnf); first | done | rfl) ?_))
        all_goals (first | refine w_skip rfl ?_ | (refine w_mov rfl (by (conv => lhs; whnf); first | done | rfl) ?_))
        all_goals (first | refine w_skip rfl ?_ | (refine w_eql rfl (by (conv => lhs; whnf); first | done | rfl) (by (conv => lhs; whnf); first | done | rfl) ?_))
        all_goals (first | refine w_pick_t rfl rfl (by (conv => lhs; whnf); first | done | rfl) ?_ | refine w_pick_f rfl rfl (by (conv => lhs; whnf); first | done | rfl) ?_)
        all_goals (refine w_nil ?_)
        all_goals (refine jn (by first | exact (Ag.upd rfl (Ag.upd rfl (Ag.upd rfl (Ag.upd rfl (Ag.upd rfl (Ag.upd rfl (Ag.upd rfl (Ag.upd rfl (Ag.upd rfl (Ag.upd rfl (Ag.upd rfl (Ag.upd rfl (Ag.upd rfl (Ag.upd rfl (Ag.upd rfl (Ag.upd rfl (Ag.upd rfl (Ag.upd rfl (Ag.upd rfl (Ag.upd rfl (Ag.upd rfl (Ag.upd rfl (Ag.upd rfl Ag.refl))))))))))))))))))))))) | exact (by first | ((repeat (first | with_reducible exact Ag.refl | with_reducible exact Ag.ov | (with_reducible refine Ag.upd ?_ ?_; exact rfl) | with_reducible refine Ag.putn ?_ | (with_reducible refine Ag.ovs ?_ ?_; exact rfl))); done) | (repeat (first | exact Ag.refl | exact Ag.ov | (refine Ag.upd ?_ ?_; exact rfl) | refine Ag.putn ?_ | (refine Ag.ovs ?_ ?_; exact rfl))))) (by (conv => lhs; whnf); first | done | rfl) ?_)
        all_goals (exact congrArg Value.bool (by first | rfl | (refine decide_eq_decide.2 ?_; omega) | (refine (decide_eq_true ?_).symm; omega) | (refine (decide_eq_false ?_).symm; omega) | simp_all))
      refine tq_n ?_
      refine c_cond_d (by (conv => lhs; whnf); first | done | rfl) (fun hc63 => ?_) (fun hc63 => ?_)
      · refine c_seq ?_
        refine c_region ?_
        refine x_fa rfl (by (conv => lhs; whnf); first | done | rfl) ?_
        refine x_fa rfl (by (conv => lhs; whnf); first | done | rfl) ?_
        refine x_ldo rfl (by (conv => lhs; whnf); first | done | rfl) (by first | exact HasC.out | exact PutC.out | repeat (first | exact .here | apply Has.there | apply Put.there | apply Has.app | apply Put.app)) (by (conv => lhs; whnf); first | done | rfl) ?_
        refine w_add rfl (by (conv => lhs; whnf); first | done | rfl) (by (conv => lhs; whnf); first | done | rfl) (by omega) ?_
        refine x_fa rfl (by (conv => lhs; whnf); first | done | rfl) ?_
        refine x_fa rfl (by (conv => lhs; whnf); first | done | rfl) ?_
        refine x_st1 rfl (by (conv => lhs; whnf); first | done | rfl) (by (conv => lhs; whnf); first | done | rfl) rfl (by first | exact HasC.out | exact PutC.out | repeat (first | exact .here | apply Has.there | apply Put.there | apply Has.app | apply Put.app)) rfl ?_
        refine w_nil ?_
        refine tq_n ?_
        refine c_seq ?_
        refine d_begin_s ((show List.Sublist [(b12, _)] _ from (by first | exact SubL.out | repeat (first | exact List.Sublist.refl _ | exact List.nil_sublist _ | refine .cons_cons _ ?_ | refine .cons _ ?_ | refine List.Sublist.append (List.Sublist.refl _) ?_ | exact List.sublist_append_left _ _ | refine List.Sublist.trans ?_ (List.sublist_append_right _ _))))) [] mixed ?_
        refine d_tk 0 (np_then (np_then np_ret)) rfl (by kernel_rfl) (by kernel_rfl) (by kernel_rfl) (by kernel_rfl) (by kernel_rfl) (by first | exact SubL.out | repeat (first | exact List.Sublist.refl _ | exact List.nil_sublist _ | refine .cons_cons _ ?_ | refine .cons _ ?_ | refine List.Sublist.append (List.Sublist.refl _) ?_ | exact List.sublist_append_left _ _ | refine List.Sublist.trans ?_ (List.sublist_append_right _ _))) ?_
        refine x_ldao rfl (by (conv => lhs; whnf); first | done | rfl) (by first | exact HasC.out | exact PutC.out | repeat (first | exact .here | apply Has.there | apply Put.there | apply Has.app | apply Put.app)) rfl ?_
        refine w_nil ⟨rfl, rfl, ?_⟩
        refine d_tk0 1 (np_then (np_then np_ret)) rfl (by kernel_rfl) (by kernel_rfl) (by kernel_rfl) (by kernel_rfl) (.inl (by first | exact SubL.out | repeat (first | exact List.Sublist.refl _ | exact List.nil_sublist _ | refine .cons_cons _ ?_ | refine .cons _ ?_ | refine List.Sublist.append (List.Sublist.refl _) ?_ | exact List.sublist_append_left _ _ | refine List.Sublist.trans ?_ (List.sublist_append_right _ _)))) ?_
        refine x_fa rfl (by (conv => lhs; whnf); first | done | rfl) ?_
        refine w_nil ⟨rfl, rfl, ?_⟩
        refine d_tk0 2 (np_then (np_then np_ret)) rfl (by kernel_rfl) (by kernel_rfl) (by kernel_rfl) (by kernel_rfl) (.inl (by first | exact SubL.out | repeat (first | exact List.Sublist.refl _ | exact List.nil_sublist _ | refine .cons_cons _ ?_ | refine .cons _ ?_ | refine List.Sublist.append (List.Sublist.refl _) ?_ | exact List.sublist_append_left _ _ | refine List.Sublist.trans ?_ (List.sublist_append_right _ _)))) ?_
        refine x_fa rfl (by (conv => lhs; whnf); first | done | rfl) ?_
        refine w_nil ⟨rfl, rfl, ?_⟩
        refine d_tk 3 (np_then (np_then np_ret)) rfl (by kernel_rfl) (by kernel_rfl) (by kernel_rfl) (by kernel_rfl) (by kernel_rfl) (by first | exact SubL.out | repeat (first | exact List.Sublist.refl _ | exact List.nil_sublist _ | refine .cons_cons _ ?_ | refine .cons _ ?_ | refine List.Sublist.append (List.Sublist.refl _) ?_ | exact List.sublist_append_left _ _ | refine List.Sublist.trans ?_ (List.sublist_append_right _ _))) ?_
        refine x_ldo rfl (by (conv => lhs; whnf); first | done | rfl) (by first | exact HasC.out | exact PutC.out | repeat (first | exact .here | apply Has.there | apply Put.there | apply Has.app | apply Put.app)) (by (conv => lhs; whnf); first | done | rfl) ?_
        refine w_nil ⟨rfl, rfl, ?_⟩
        refine d_tk0 4 (np_then (np_then np_ret)) rfl (by kernel_rfl) (by kernel_rfl) (by kernel_rfl) (by kernel_rfl) (.inl (by first | exact SubL.out | repeat (first | exact List.Sublist.refl _ | exact List.nil_sublist _ | refine .cons_cons _ ?_ | refine .cons _ ?_ | refine List.Sublist.append (List.Sublist.refl _) ?_ | exact List.sublist_append_left _ _ | refine List.Sublist.trans ?_ (List.sublist_append_right _ _)))) ?_
        refine w_mov rfl (by (conv => lhs; whnf); first | done | rfl) ?_
        refine w_nil ⟨rfl, rfl, ?_⟩
        refine d_tk0 5 (np_then (np_then np_ret)) rfl (by kernel_rfl) (by kernel_rfl) (by kernel_rfl) (by kernel_rfl) (.inl (by first | exact SubL.out | repeat (first | exact List.Sublist.refl _ | exact List.nil_sublist _ | refine .cons_cons _ ?_ | refine .cons _ ?_ | refine List.Sublist.append (List.Sublist.refl _) ?_ | exact List.sublist_append_left _ _ | refine List.Sublist.trans ?_ (List.sublist_append_right _ _)))) ?_
        refine x_bld rfl (.cons (by (conv => lhs; whnf); first | done | rfl) (.cons (by (conv => lhs; whnf); first | done | rfl) .nil)) rfl ?_
        refine w_nil ⟨rfl, rfl, ?_⟩
        refine d_one 6 rfl (by kernel_rfl) ?_
        refine x_stw rfl (by (conv => lhs; whnf); first | done | rfl) (by (conv => lhs; whnf); first | done | rfl) rfl rfl (by first | exact HasC.out | exact PutC.out | repeat (first | exact .here | apply Has.there | apply Put.there | apply Has.app | apply Put.app)) rfl ?_
        refine w_nil ⟨rfl, (.inl (by first | exact SubL.out | repeat (first | exact List.Sublist.refl _ | exact List.nil_sublist _ | refine .cons_cons _ ?_ | refine .cons _ ?_ | refine List.Sublist.append (List.Sublist.refl _) ?_ | exact List.sublist_append_left _ _ | refine List.Sublist.trans ?_ (List.sublist_append_right _ _)))), ?_⟩
        refine d_one 7 rfl (by kernel_rfl) ?_
        refine x_stw rfl (by (conv => lhs; whnf); first | done | rfl) (by (conv => lhs; whnf); first | done | rfl) rfl rfl (by first | exact HasC.out | exact PutC.out | repeat (first | exact .here | apply Has.there | apply Put.there | apply Has.app | apply Put.app)) rfl ?_
        refine w_nil ⟨rfl, (.inl (by first | exact SubL.out | repeat (first | exact List.Sublist.refl _ | exact List.nil_sublist _ | refine .cons_cons _ ?_ | refine .cons _ ?_ | refine List.Sublist.append (List.Sublist.refl _) ?_ | exact List.sublist_append_left _ _ | refine List.Sublist.trans ?_ (List.sublist_append_right _ _)))), ?_⟩
        refine d_tk0 8 (np_then (np_then np_ret)) rfl (by kernel_rfl) (by kernel_rfl) (by kernel_rfl) (by kernel_rfl) (.inl (by first | exact SubL.out | repeat (first | exact List.Sublist.refl _ | exact List.nil_sublist _ | refine .cons_cons _ ?_ | refine .cons _ ?_ | refine List.Sublist.append (List.Sublist.refl _) ?_ | exact List.sublist_append_left _ _ | refine List.Sublist.trans ?_ (List.sublist_append_right _ _)))) ?_
        refine w_asg rfl (by (conv => lhs; whnf); first | done | rfl) ?_
        refine w_nil ⟨rfl, rfl, ?_⟩
        refine d_done (by kernel_rfl) ?_
        refine tq_n ?_
        refine c_ret ?_
        refine tq_r ?_
        exact rq_r (ra_c (by (conv => lhs; whnf); first | done | rfl) (by first | exact HasC.out | exact PutC.out | repeat (first | exact .here | apply Has.there | apply Put.there | apply Has.app | apply Put.app)) rfl (ra_c (by (conv => lhs; whnf); first | done | rfl) (by first | exact HasC.out | exact PutC.out | repeat (first | exact .here | apply Has.there | apply Put.there | apply Has.app | apply Put.app)) rfl (ra_t (by (conv => lhs; whnf); first | done | rfl) .nil))) (by first | exact SubL.out | repeat (first | exact List.Sublist.refl _ | exact List.nil_sublist _ | refine .cons_cons _ ?_ | refine .cons _ ?_ | refine List.Sublist.append (List.Sublist.refl _) ?_ | exact List.sublist_append_left _ _ | refine List.Sublist.trans ?_ (List.sublist_append_right _ _))) (PutR_inr (t := { fgT t p with su := t.su + 1 }) (a := t.sp) (b := p % t.P) (S := Sv ++ (Sp' ++ (Sh ++ Sd))) (hput.trans ((if_pos hc63).trans (by rw [hc63.2]))) rfl (tabO_tw (t := { fgT t p with su := t.su + 1 }) (fgt_cl hcl) g1 g2 (by show OSl 102 2 _ _ (fgt (isP p) t.lo).length _; rw [fgt_len]; exact g3) hW (by first | exact SubL.out | repeat (first | exact List.Sublist.refl _ | exact List.nil_sublist _ | refine .cons_cons _ ?_ | refine .cons _ ?_ | refine List.Sublist.append (List.Sublist.refl _) ?_ | exact List.sublist_append_left _ _ | refine List.Sublist.trans ?_ (List.sublist_append_right _ _))) (by first | exact SubL.out | repeat (first | exact List.Sublist.refl _ | exact List.nil_sublist _ | refine .cons_cons _ ?_ | refine .cons _ ?_ | refine List.Sublist.append (List.Sublist.refl _) ?_ | exact List.sublist_append_left _ _ | refine List.Sublist.trans ?_ (List.sublist_append_right _ _))) (by first | exact SubL.out | repeat (first | exact List.Sublist.refl _ | exact List.nil_sublist _ | refine .cons_cons _ ?_ | refine .cons _ ?_ | refine List.Sublist.append (List.Sublist.refl _) ?_ | exact List.sublist_append_left _ _ | refine List.Sublist.trans ?_ (List.sublist_append_right _ _))) (by first | exact SubL.out | repeat (first | exact List.Sublist.refl _ | exact List.nil_sublist _ | refine .cons_cons _ ?_ | refine .cons _ ?_ | refine List.Sublist.append (List.Sublist.refl _) ?_ | exact List.sublist_append_left _ _ | refine List.Sublist.trans ?_ (List.sublist_append_right _ _)))))
      · refine c_skip ?_
        refine tq_n ?_
        refine c_seq ?_
        refine c_seq ?_
        refine c_region_j [76, 77, 78, 79, 80, 81, 82] 82 (.bool (decide (k = 2 ∧ room t))) ?_ (fun g11 => ?_)
        · all_goals (refine x_fa rfl (by (conv => lhs; whnf); first | done | rfl) ?_)
          all_goals (refine x_ldo rfl (by (conv => lhs; whnf); first | done | rfl) (by first | exact HasC.out | exact PutC.out | repeat (first | exact .here | apply Has.there | apply Put.there | apply Has.app | apply Put.app)) (by (conv => lhs; whnf); first | done | rfl) ?_)
          all_goals (refine w_eql rfl (by (conv => lhs; whnf); first | done | rfl) (by (conv => lhs; whnf); first | done | rfl) ?_)
          all_goals (refine w_mov rfl (by (conv => lhs; whnf); first | done | rfl) ?_)
          all_goals (first | refine w_lit true rfl rfl rfl ?_ | refine w_lit false rfl rfl rfl ?_ | refine w_cases_od rfl rfl rfl (fun hg => ?_) (fun hg => ?_) | refine w_cases_o rfl rfl rfl (fun hg => ?_) (fun hg => ?_) | skip)
          all_goals (first | refine w_skip rfl ?_ | (refine x_ldao rfl (by (conv => lhs; whnf); first | done | rfl) (by first | exact HasC.out | exact PutC.out | repeat (first | exact .here | apply Has.there | apply Put.there | apply Has.app | apply Put.app)) rfl ?_))
          all_goals (first | refine w_skip rfl ?_ | (refine x_callp (by decide) (roomr_g (hT.sub (List.nil_sublist _))) rfl rfl rfl ?_))
          all_goals (first | refine w_pick_t rfl rfl (by (conv => lhs; whnf); first | done | rfl) ?_ | refine w_pick_f rfl rfl (by (conv => lhs; whnf); first | done | rfl) ?_)
          all_goals (refine w_nil ?_)
          all_goals (refine jn (by first | exact (Ag.upd rfl (Ag.upd rfl (Ag.upd rfl (Ag.upd rfl (Ag.upd rfl (Ag.upd rfl (Ag.upd rfl Ag.refl))))))) | exact (by first | ((repeat (first | with_reducible exact Ag.refl | with_reducible exact Ag.ov | (with_reducible refine Ag.upd ?_ ?_; exact rfl) | with_reducible refine Ag.putn ?_ | (with_reducible refine Ag.ovs ?_ ?_; exact rfl))); done) | (repeat (first | exact Ag.refl | exact Ag.ov | (refine Ag.upd ?_ ?_; exact rfl) | refine Ag.putn ?_ | (refine Ag.ovs ?_ ?_; exact rfl))))) (by (conv => lhs; whnf); first | done | rfl) ?_)
          all_goals (exact congrArg Value.bool (by first | exact decide_eq_decide.2 ⟨fun h => ⟨hg, h⟩, fun h => h.2⟩ | exact (decide_eq_false (fun h => hg h.1)).symm))
        refine tq_n ?_
        refine c_cond_d (by (conv => lhs; whnf); first | done | rfl) (fun hc82 => ?_) (fun hc82 => ?_)
        · obtain ⟨lv', lo', ph, pv, pg, S', S1, rfl, hlo', rfl, g5, g6, hpg⟩ := hW.last (by rw [fgt_len]; exact hc82.2.1)
          have hln := hW.len
          have hl5 := g5.len
          have hll5 : lv'.length = t.lo.length - 1 := (by rw [hl5]; have := congrArg List.length hlo'; rw [fgt_len] at this; simp at this; omega)
          have hix : ((t.lo.length : Int) - 1).toNat = lv'.length := (by have := hc82.2.1; omega)
          have hlp : (lv' ++ [(ph, pv)])[((t.lo.length : Int) - 1).toNat]? = some (ph, pv) := (by rw [hix]; simp)
          obtain ⟨Ap, cp, rfl, hcp⟩ := g6.form
          obtain ⟨hlph, hlN⟩ := last_fgt hlo'
          have hpgl : pg.length < 1048576 := (by have := hc82.2.2; omega)
          refine c_seq ?_
          refine c_region ?_
          refine x_fa rfl (by (conv => lhs; whnf); first | done | rfl) ?_
          refine x_ldo rfl (by (conv => lhs; whnf); first | done | rfl) (by first | exact HasC.out | exact PutC.out | repeat (first | exact .here | apply Has.there | apply Put.there | apply Has.app | apply Put.app)) (by (conv => lhs; whnf); first | done | rfl) ?_
          refine x_len rfl (by (conv => lhs; whnf); first | done | rfl) ?_
          refine w_sub rfl (by (conv => lhs; whnf); first | done | rfl) (by (conv => lhs; whnf); first | done | rfl) (by omega) ?_
          refine w_asg rfl (by (conv => lhs; whnf); first | done | rfl) ?_
          refine w_nil ?_
          refine tq_n ?_
          refine c_seq ?_
          rw [List.append_assoc S1 S']
          refine d_begin_s ((show List.Sublist ((b12, _) :: (Sv ++ (S' ++ (Sh ++ (Sd ++ _))))) _ from (by first | exact SubL.out | repeat (first | exact List.Sublist.refl _ | exact List.nil_sublist _ | refine .cons_cons _ ?_ | refine .cons _ ?_ | refine List.Sublist.append (List.Sublist.refl _) ?_ | exact List.sublist_append_left _ _ | refine List.Sublist.trans ?_ (List.sublist_append_right _ _))))) [14] mixed ?_
          refine d_tk0 0 (np_then (np_then np_ret)) rfl (by kernel_rfl) (by kernel_rfl) (by kernel_rfl) (by kernel_rfl) (.inl (by first | exact SubL.out | repeat (first | exact List.Sublist.refl _ | exact List.nil_sublist _ | refine .cons_cons _ ?_ | refine .cons _ ?_ | refine List.Sublist.append (List.Sublist.refl _) ?_ | exact List.sublist_append_left _ _ | refine List.Sublist.trans ?_ (List.sublist_append_right _ _)))) ?_
          refine x_fa rfl (by (conv => lhs; whnf); first | done | rfl) ?_
          refine w_nil ⟨rfl, rfl, ?_⟩
          refine d_tk 1 (np_then (np_then np_ret)) rfl (by kernel_rfl) (by kernel_rfl) (by kernel_rfl) (by kernel_rfl) (by kernel_rfl) (by first | exact SubL.out | repeat (first | exact List.Sublist.refl _ | exact List.nil_sublist _ | refine .cons_cons _ ?_ | refine .cons _ ?_ | refine List.Sublist.append (List.Sublist.refl _) ?_ | exact List.sublist_append_left _ _ | refine List.Sublist.trans ?_ (List.sublist_append_right _ _))) ?_
          refine x_ldo rfl (by (conv => lhs; whnf); first | done | rfl) (by first | exact HasC.out | exact PutC.out | repeat (first | exact .here | apply Has.there | apply Put.there | apply Has.app | apply Put.app)) (by (conv => lhs; whnf); first | done | rfl) ?_
          refine w_nil ⟨rfl, rfl, ?_⟩
          refine d_tk0 2 (np_then (np_then np_ret)) rfl (by kernel_rfl) (by kernel_rfl) (by kernel_rfl) (by kernel_rfl) (.inl (by first | exact SubL.out | repeat (first | exact List.Sublist.refl _ | exact List.nil_sublist _ | refine .cons_cons _ ?_ | refine .cons _ ?_ | refine List.Sublist.append (List.Sublist.refl _) ?_ | exact List.sublist_append_left _ _ | refine List.Sublist.trans ?_ (List.sublist_append_right _ _)))) ?_
          refine w_mov rfl (by (conv => lhs; whnf); first | done | rfl) ?_
          refine w_nil ⟨rfl, rfl, ?_⟩
          refine d_tk0 3 (np_then (np_then np_ret)) rfl (by kernel_rfl) (by kernel_rfl) (by kernel_rfl) (by kernel_rfl) (.inl (by first | exact SubL.out | repeat (first | exact List.Sublist.refl _ | exact List.nil_sublist _ | refine .cons_cons _ ?_ | refine .cons _ ?_ | refine List.Sublist.append (List.Sublist.refl _) ?_ | exact List.sublist_append_left _ _ | refine List.Sublist.trans ?_ (List.sublist_append_right _ _)))) ?_
          refine x_fa rfl (by (conv => lhs; whnf); first | done | rfl) ?_
          refine w_nil ⟨rfl, rfl, ?_⟩
          refine d_tk 4 (np_then (np_then np_ret)) rfl (by kernel_rfl) (by kernel_rfl) (by kernel_rfl) (by kernel_rfl) (by kernel_rfl) (by first | exact SubL.out | repeat (first | exact List.Sublist.refl _ | exact List.nil_sublist _ | refine .cons_cons _ ?_ | refine .cons _ ?_ | refine List.Sublist.append (List.Sublist.refl _) ?_ | exact List.sublist_append_left _ _ | refine List.Sublist.trans ?_ (List.sublist_append_right _ _))) ?_
          refine x_ldo rfl (by (conv => lhs; whnf); first | done | rfl) (by first | exact HasC.out | exact PutC.out | repeat (first | exact .here | apply Has.there | apply Put.there | apply Has.app | apply Put.app)) (by (conv => lhs; whnf); first | done | rfl) ?_
          refine w_nil ⟨rfl, rfl, ?_⟩
          refine d_tk0 5 (np_then (np_then np_ret)) rfl (by kernel_rfl) (by kernel_rfl) (by kernel_rfl) (by kernel_rfl) (.inl (by first | exact SubL.out | repeat (first | exact List.Sublist.refl _ | exact List.nil_sublist _ | refine .cons_cons _ ?_ | refine .cons _ ?_ | refine List.Sublist.append (List.Sublist.refl _) ?_ | exact List.sublist_append_left _ _ | refine List.Sublist.trans ?_ (List.sublist_append_right _ _)))) ?_
          refine w_mov rfl (by (conv => lhs; whnf); first | done | rfl) ?_
          refine w_nil ⟨rfl, rfl, ?_⟩
          refine d_tk0 6 (np_then (np_then np_ret)) rfl (by kernel_rfl) (by kernel_rfl) (by kernel_rfl) (by kernel_rfl) (.inl (by first | exact SubL.out | repeat (first | exact List.Sublist.refl _ | exact List.nil_sublist _ | refine .cons_cons _ ?_ | refine .cons _ ?_ | refine List.Sublist.append (List.Sublist.refl _) ?_ | exact List.sublist_append_left _ _ | refine List.Sublist.trans ?_ (List.sublist_append_right _ _)))) ?_
          refine x_ixA rfl (by (conv => lhs; whnf); first | done | rfl) (by (conv => lhs; whnf); first | done | rfl) (hAl hc82.2.1) (by omega) (by omega) ?_
          refine w_nil ⟨rfl, rfl, ?_⟩
          refine d_tk0 7 (np_then (np_then np_ret)) rfl (by kernel_rfl) (by kernel_rfl) (by kernel_rfl) (by kernel_rfl) (.inl (by first | exact SubL.out | repeat (first | exact List.Sublist.refl _ | exact List.nil_sublist _ | refine .cons_cons _ ?_ | refine .cons _ ?_ | refine List.Sublist.append (List.Sublist.refl _) ?_ | exact List.sublist_append_left _ _ | refine List.Sublist.trans ?_ (List.sublist_append_right _ _)))) ?_
          refine x_fa rfl (by (conv => lhs; whnf); first | done | rfl) ?_
          refine w_nil ⟨rfl, rfl, ?_⟩
          refine d_tk 8 (np_then (np_then np_ret)) rfl (by kernel_rfl) (by kernel_rfl) (by kernel_rfl) (by kernel_rfl) (by kernel_rfl) (by first | exact SubL.out | repeat (first | exact List.Sublist.refl _ | exact List.nil_sublist _ | refine .cons_cons _ ?_ | refine .cons _ ?_ | refine List.Sublist.append (List.Sublist.refl _) ?_ | exact List.sublist_append_left _ _ | refine List.Sublist.trans ?_ (List.sublist_append_right _ _))) ?_
          refine x_ld rfl (by (conv => lhs; whnf); first | done | rfl) ((hRl _ _ (by first | exact SubL.out | repeat (first | exact List.Sublist.refl _ | exact List.nil_sublist _ | refine .cons_cons _ ?_ | refine .cons _ ?_ | refine List.Sublist.append (List.Sublist.refl _) ?_ | exact List.sublist_append_left _ _ | refine List.Sublist.trans ?_ (List.sublist_append_right _ _))) _ _ hlp).2) ?_
          refine w_nil ⟨rfl, rfl, ?_⟩
          refine d_tk0 9 (np_then (np_then np_ret)) rfl (by kernel_rfl) (by kernel_rfl) (by kernel_rfl) (by kernel_rfl) (.inl (by first | exact SubL.out | repeat (first | exact List.Sublist.refl _ | exact List.nil_sublist _ | refine .cons_cons _ ?_ | refine .cons _ ?_ | refine List.Sublist.append (List.Sublist.refl _) ?_ | exact List.sublist_append_left _ _ | refine List.Sublist.trans ?_ (List.sublist_append_right _ _)))) ?_
          refine w_mov rfl (by (conv => lhs; whnf); first | done | rfl) ?_
          refine w_nil ⟨rfl, rfl, ?_⟩
          refine d_one 10 rfl (by kernel_rfl) ?_
          refine x_bs1 rfl (by (conv => lhs; whnf); first | done | rfl) rfl rfl rfl rfl ?_
          intro b97
          refine w_nil ⟨rfl, (.inl (by first | exact SubL.out | repeat (first | exact List.Sublist.refl _ | exact List.nil_sublist _ | refine .cons_cons _ ?_ | refine .cons _ ?_ | refine List.Sublist.append (List.Sublist.refl _) ?_ | exact List.sublist_append_left _ _ | refine List.Sublist.trans ?_ (List.sublist_append_right _ _)))), ?_⟩
          refine d_one 11 rfl (by kernel_rfl) ?_
          refine x_app rfl (by (conv => lhs; whnf); first | done | rfl) (by (conv => lhs; whnf); first | done | rfl) (perm5) (g6) (xs_new (by first | exact HasC.out | exact PutC.out | repeat (first | exact .here | apply Has.there | apply Put.there | apply Has.app | apply Put.app))) (rfl) (rfl) (by omega) (by decide) ?_
          rintro v39 S39 hS39
          obtain ⟨cs2, Sv2, hput2, hbnd, g3'⟩ := logs_set (v := v39) g3 rfl
          rw [← hix] at hput2 hbnd
          refine w_nil ⟨rfl, (.inl (by first | exact SubL.out | repeat (first | exact List.Sublist.refl _ | exact List.nil_sublist _ | refine .cons_cons _ ?_ | refine .cons _ ?_ | refine List.Sublist.append (List.Sublist.refl _) ?_ | exact List.sublist_append_left _ _ | refine List.Sublist.trans ?_ (List.sublist_append_right _ _)))), ?_⟩
          refine d_tk0 12 (np_then (np_then np_ret)) rfl (by kernel_rfl) (by kernel_rfl) (by kernel_rfl) (by kernel_rfl) (.inl (by first | exact SubL.out | repeat (first | exact List.Sublist.refl _ | exact List.nil_sublist _ | refine .cons_cons _ ?_ | refine .cons _ ?_ | refine List.Sublist.append (List.Sublist.refl _) ?_ | exact List.sublist_append_left _ _ | refine List.Sublist.trans ?_ (List.sublist_append_right _ _)))) ?_
          refine x_ixA rfl (by (conv => lhs; whnf); first | done | rfl) (by (conv => lhs; whnf); first | done | rfl) (hAl hc82.2.1) (by omega) (by omega) ?_
          refine w_nil ⟨rfl, rfl, ?_⟩
          refine d_tk0 13 (np_then (np_then np_ret)) rfl (by kernel_rfl) (by kernel_rfl) (by kernel_rfl) (by kernel_rfl) (.inl (by first | exact SubL.out | repeat (first | exact List.Sublist.refl _ | exact List.nil_sublist _ | refine .cons_cons _ ?_ | refine .cons _ ?_ | refine List.Sublist.append (List.Sublist.refl _) ?_ | exact List.sublist_append_left _ _ | refine List.Sublist.trans ?_ (List.sublist_append_right _ _)))) ?_
          refine x_fa rfl (by (conv => lhs; whnf); first | done | rfl) ?_
          refine w_nil ⟨rfl, rfl, ?_⟩
          refine d_one 14 rfl (by kernel_rfl) ?_
          refine x_sts rfl (by (conv => lhs; whnf); first | done | rfl) (by (conv => lhs; whnf); first | done | rfl) (hS39.one) (Put.app (.there (.there (Put.appl hput2)))) (hbnd) ?_
          refine w_nil ⟨rfl, (.inr (by kernel_rfl)), ?_⟩
          refine d_done (by kernel_rfl) ?_
          obtain ⟨A39, c39, rfl, _⟩ := hS39.form
          obtain ⟨Al3, cl3, he3, _, _, hRl3⟩ := logs_opn g3' (by simp at hln ⊢; omega) hcl.2.2.1
          cases he3
          have hlp2 : (lv' ++ [(ph, .slice A39 (pg.length + 1) c39)])[((t.lo.length : Int) - 1).toNat]? = some (ph, .slice A39 (pg.length + 1) c39) := (by rw [hix]; simp)
          refine tq_n ?_
          refine c_seq ?_
          refine d_begin_s ((show List.Sublist ((b12, _) :: (Sv2 ++ [(b3, _)])) _ from (by first | exact SubL.out | repeat (first | exact List.Sublist.refl _ | exact List.nil_sublist _ | refine .cons_cons _ ?_ | refine .cons _ ?_ | refine List.Sublist.append (List.Sublist.refl _) ?_ | exact List.sublist_append_left _ _ | refine List.Sublist.trans ?_ (List.sublist_append_right _ _))))) [] mixed ?_
          refine d_tk 0 (np_then (np_then np_ret)) rfl (by kernel_rfl) (by kernel_rfl) (by kernel_rfl) (by kernel_rfl) (by kernel_rfl) (by first | exact SubL.out | repeat (first | exact List.Sublist.refl _ | exact List.nil_sublist _ | refine .cons_cons _ ?_ | refine .cons _ ?_ | refine List.Sublist.append (List.Sublist.refl _) ?_ | exact List.sublist_append_left _ _ | refine List.Sublist.trans ?_ (List.sublist_append_right _ _))) ?_
          refine x_ldao rfl (by (conv => lhs; whnf); first | done | rfl) (by first | exact HasC.out | exact PutC.out | repeat (first | exact .here | apply Has.there | apply Put.there | apply Has.app | apply Put.app)) rfl ?_
          refine w_nil ⟨rfl, rfl, ?_⟩
          refine d_tk0 1 (np_then (np_then np_ret)) rfl (by kernel_rfl) (by kernel_rfl) (by kernel_rfl) (by kernel_rfl) (.inl (by first | exact SubL.out | repeat (first | exact List.Sublist.refl _ | exact List.nil_sublist _ | refine .cons_cons _ ?_ | refine .cons _ ?_ | refine List.Sublist.append (List.Sublist.refl _) ?_ | exact List.sublist_append_left _ _ | refine List.Sublist.trans ?_ (List.sublist_append_right _ _)))) ?_
          refine x_fa rfl (by (conv => lhs; whnf); first | done | rfl) ?_
          refine w_nil ⟨rfl, rfl, ?_⟩
          refine d_tk 2 (np_then (np_then np_ret)) rfl (by kernel_rfl) (by kernel_rfl) (by kernel_rfl) (by kernel_rfl) (by kernel_rfl) (by first | exact SubL.out | repeat (first | exact List.Sublist.refl _ | exact List.nil_sublist _ | refine .cons_cons _ ?_ | refine .cons _ ?_ | refine List.Sublist.append (List.Sublist.refl _) ?_ | exact List.sublist_append_left _ _ | refine List.Sublist.trans ?_ (List.sublist_append_right _ _))) ?_
          refine x_ldo rfl (by (conv => lhs; whnf); first | done | rfl) (by first | exact HasC.out | exact PutC.out | repeat (first | exact .here | apply Has.there | apply Put.there | apply Has.app | apply Put.app)) (by (conv => lhs; whnf); first | done | rfl) ?_
          refine w_nil ⟨rfl, rfl, ?_⟩
          refine d_tk0 3 (np_then (np_then np_ret)) rfl (by kernel_rfl) (by kernel_rfl) (by kernel_rfl) (by kernel_rfl) (.inl (by first | exact SubL.out | repeat (first | exact List.Sublist.refl _ | exact List.nil_sublist _ | refine .cons_cons _ ?_ | refine .cons _ ?_ | refine List.Sublist.append (List.Sublist.refl _) ?_ | exact List.sublist_append_left _ _ | refine List.Sublist.trans ?_ (List.sublist_append_right _ _)))) ?_
          refine w_mov rfl (by (conv => lhs; whnf); first | done | rfl) ?_
          refine w_nil ⟨rfl, rfl, ?_⟩
          refine d_tk0 4 (np_then (np_then np_ret)) rfl (by kernel_rfl) (by kernel_rfl) (by kernel_rfl) (by kernel_rfl) (.inl (by first | exact SubL.out | repeat (first | exact List.Sublist.refl _ | exact List.nil_sublist _ | refine .cons_cons _ ?_ | refine .cons _ ?_ | refine List.Sublist.append (List.Sublist.refl _) ?_ | exact List.sublist_append_left _ _ | refine List.Sublist.trans ?_ (List.sublist_append_right _ _)))) ?_
          refine x_ixA rfl (by (conv => lhs; whnf); first | done | rfl) (by (conv => lhs; whnf); first | done | rfl) (hAl hc82.2.1) (by omega) (by omega) ?_
          refine w_nil ⟨rfl, rfl, ?_⟩
          refine d_tk0 5 (np_then (np_then np_ret)) rfl (by kernel_rfl) (by kernel_rfl) (by kernel_rfl) (by kernel_rfl) (.inl (by first | exact SubL.out | repeat (first | exact List.Sublist.refl _ | exact List.nil_sublist _ | refine .cons_cons _ ?_ | refine .cons _ ?_ | refine List.Sublist.append (List.Sublist.refl _) ?_ | exact List.sublist_append_left _ _ | refine List.Sublist.trans ?_ (List.sublist_append_right _ _)))) ?_
          refine x_fa rfl (by (conv => lhs; whnf); first | done | rfl) ?_
          refine w_nil ⟨rfl, rfl, ?_⟩
          refine d_tk 6 (np_then (np_then np_ret)) rfl (by kernel_rfl) (by kernel_rfl) (by kernel_rfl) (by kernel_rfl) (by kernel_rfl) (by first | exact SubL.out | repeat (first | exact List.Sublist.refl _ | exact List.nil_sublist _ | refine .cons_cons _ ?_ | refine .cons _ ?_ | refine List.Sublist.append (List.Sublist.refl _) ?_ | exact List.sublist_append_left _ _ | refine List.Sublist.trans ?_ (List.sublist_append_right _ _))) ?_
          refine x_ld rfl (by (conv => lhs; whnf); first | done | rfl) ((hRl3 _ _ (by first | exact SubL.out | repeat (first | exact List.Sublist.refl _ | exact List.nil_sublist _ | refine .cons_cons _ ?_ | refine .cons _ ?_ | refine List.Sublist.append (List.Sublist.refl _) ?_ | exact List.sublist_append_left _ _ | refine List.Sublist.trans ?_ (List.sublist_append_right _ _))) _ _ hlp2).1) ?_
          refine w_nil ⟨rfl, rfl, ?_⟩
          refine d_tk0 7 (np_then (np_then np_ret)) rfl (by kernel_rfl) (by kernel_rfl) (by kernel_rfl) (by kernel_rfl) (.inl (by first | exact SubL.out | repeat (first | exact List.Sublist.refl _ | exact List.nil_sublist _ | refine .cons_cons _ ?_ | refine .cons _ ?_ | refine List.Sublist.append (List.Sublist.refl _) ?_ | exact List.sublist_append_left _ _ | refine List.Sublist.trans ?_ (List.sublist_append_right _ _)))) ?_
          refine x_fa rfl (by (conv => lhs; whnf); first | done | rfl) ?_
          refine w_nil ⟨rfl, rfl, ?_⟩
          refine d_tk 8 (np_then (np_then np_ret)) rfl (by kernel_rfl) (by kernel_rfl) (by kernel_rfl) (by kernel_rfl) (by kernel_rfl) (by first | exact SubL.out | repeat (first | exact List.Sublist.refl _ | exact List.nil_sublist _ | refine .cons_cons _ ?_ | refine .cons _ ?_ | refine List.Sublist.append (List.Sublist.refl _) ?_ | exact List.sublist_append_left _ _ | refine List.Sublist.trans ?_ (List.sublist_append_right _ _))) ?_
          refine x_ldo rfl (by (conv => lhs; whnf); first | done | rfl) (by first | exact HasC.out | exact PutC.out | repeat (first | exact .here | apply Has.there | apply Put.there | apply Has.app | apply Put.app)) (by (conv => lhs; whnf); first | done | rfl) ?_
          refine w_nil ⟨rfl, rfl, ?_⟩
          refine d_tk0 9 (np_then (np_then np_ret)) rfl (by kernel_rfl) (by kernel_rfl) (by kernel_rfl) (by kernel_rfl) (.inl (by first | exact SubL.out | repeat (first | exact List.Sublist.refl _ | exact List.nil_sublist _ | refine .cons_cons _ ?_ | refine .cons _ ?_ | refine List.Sublist.append (List.Sublist.refl _) ?_ | exact List.sublist_append_left _ _ | refine List.Sublist.trans ?_ (List.sublist_append_right _ _)))) ?_
          refine w_mov rfl (by (conv => lhs; whnf); first | done | rfl) ?_
          refine w_nil ⟨rfl, rfl, ?_⟩
          refine d_tk0 10 (np_then (np_then np_ret)) rfl (by kernel_rfl) (by kernel_rfl) (by kernel_rfl) (by kernel_rfl) (.inl (by first | exact SubL.out | repeat (first | exact List.Sublist.refl _ | exact List.nil_sublist _ | refine .cons_cons _ ?_ | refine .cons _ ?_ | refine List.Sublist.append (List.Sublist.refl _) ?_ | exact List.sublist_append_left _ _ | refine List.Sublist.trans ?_ (List.sublist_append_right _ _)))) ?_
          refine x_ixA rfl (by (conv => lhs; whnf); first | done | rfl) (by (conv => lhs; whnf); first | done | rfl) (hAl hc82.2.1) (by omega) (by omega) ?_
          refine w_nil ⟨rfl, rfl, ?_⟩
          refine d_tk0 11 (np_then (np_then np_ret)) rfl (by kernel_rfl) (by kernel_rfl) (by kernel_rfl) (by kernel_rfl) (.inl (by first | exact SubL.out | repeat (first | exact List.Sublist.refl _ | exact List.nil_sublist _ | refine .cons_cons _ ?_ | refine .cons _ ?_ | refine List.Sublist.append (List.Sublist.refl _) ?_ | exact List.sublist_append_left _ _ | refine List.Sublist.trans ?_ (List.sublist_append_right _ _)))) ?_
          refine x_fa rfl (by (conv => lhs; whnf); first | done | rfl) ?_
          refine w_nil ⟨rfl, rfl, ?_⟩
          refine d_tk 12 (np_then (np_then np_ret)) rfl (by kernel_rfl) (by kernel_rfl) (by kernel_rfl) (by kernel_rfl) (by kernel_rfl) (by first | exact SubL.out | repeat (first | exact List.Sublist.refl _ | exact List.nil_sublist _ | refine .cons_cons _ ?_ | refine .cons _ ?_ | refine List.Sublist.append (List.Sublist.refl _) ?_ | exact List.sublist_append_left _ _ | refine List.Sublist.trans ?_ (List.sublist_append_right _ _))) ?_
          refine x_ld rfl (by (conv => lhs; whnf); first | done | rfl) ((hRl3 _ _ (by first | exact SubL.out | repeat (first | exact List.Sublist.refl _ | exact List.nil_sublist _ | refine .cons_cons _ ?_ | refine .cons _ ?_ | refine List.Sublist.append (List.Sublist.refl _) ?_ | exact List.sublist_append_left _ _ | refine List.Sublist.trans ?_ (List.sublist_append_right _ _))) _ _ hlp2).2) ?_
          refine w_nil ⟨rfl, rfl, ?_⟩
          refine d_tk0 13 (np_then (np_then np_ret)) rfl (by kernel_rfl) (by kernel_rfl) (by kernel_rfl) (by kernel_rfl) (.inl (by first | exact SubL.out | repeat (first | exact List.Sublist.refl _ | exact List.nil_sublist _ | refine .cons_cons _ ?_ | refine .cons _ ?_ | refine List.Sublist.append (List.Sublist.refl _) ?_ | exact List.sublist_append_left _ _ | refine List.Sublist.trans ?_ (List.sublist_append_right _ _)))) ?_
          refine x_len rfl (by (conv => lhs; whnf); first | done | rfl) ?_
          refine w_nil ⟨rfl, rfl, ?_⟩
          refine d_tk0 14 (np_then (np_then np_ret)) rfl (by kernel_rfl) (by kernel_rfl) (by kernel_rfl) (by kernel_rfl) (.inl (by first | exact SubL.out | repeat (first | exact List.Sublist.refl _ | exact List.nil_sublist _ | refine .cons_cons _ ?_ | refine .cons _ ?_ | refine List.Sublist.append (List.Sublist.refl _) ?_ | exact List.sublist_append_left _ _ | refine List.Sublist.trans ?_ (List.sublist_append_right _ _)))) ?_
          refine w_sub rfl (by (conv => lhs; whnf); first | done | rfl) (by (conv => lhs; whnf); first | done | rfl) (by omega) ?_
          refine w_nil ⟨rfl, rfl, ?_⟩
          refine d_tk0 15 (np_then (np_then np_ret)) rfl (by kernel_rfl) (by kernel_rfl) (by kernel_rfl) (by kernel_rfl) (.inl (by first | exact SubL.out | repeat (first | exact List.Sublist.refl _ | exact List.nil_sublist _ | refine .cons_cons _ ?_ | refine .cons _ ?_ | refine List.Sublist.append (List.Sublist.refl _) ?_ | exact List.sublist_append_left _ _ | refine List.Sublist.trans ?_ (List.sublist_append_right _ _)))) ?_
          refine x_bld rfl (.cons (by (conv => lhs; whnf); first | done | rfl) (.cons (by (conv => lhs; whnf); first | done | rfl) .nil)) rfl ?_
          refine w_nil ⟨rfl, rfl, ?_⟩
          refine d_one 16 rfl (by kernel_rfl) ?_
          refine x_stw rfl (by (conv => lhs; whnf); first | done | rfl) (by (conv => lhs; whnf); first | done | rfl) rfl rfl (by first | exact HasC.out | exact PutC.out | repeat (first | exact .here | apply Has.there | apply Put.there | apply Has.app | apply Put.app)) rfl ?_
          refine w_nil ⟨rfl, (.inl (by first | exact SubL.out | repeat (first | exact List.Sublist.refl _ | exact List.nil_sublist _ | refine .cons_cons _ ?_ | refine .cons _ ?_ | refine List.Sublist.append (List.Sublist.refl _) ?_ | exact List.sublist_append_left _ _ | refine List.Sublist.trans ?_ (List.sublist_append_right _ _)))), ?_⟩
          refine d_one 17 rfl (by kernel_rfl) ?_
          refine x_stw rfl (by (conv => lhs; whnf); first | done | rfl) (by (conv => lhs; whnf); first | done | rfl) rfl rfl (by first | exact HasC.out | exact PutC.out | repeat (first | exact .here | apply Has.there | apply Put.there | apply Has.app | apply Put.app)) rfl ?_
          refine w_nil ⟨rfl, (.inl (by first | exact SubL.out | repeat (first | exact List.Sublist.refl _ | exact List.nil_sublist _ | refine .cons_cons _ ?_ | refine .cons _ ?_ | refine List.Sublist.append (List.Sublist.refl _) ?_ | exact List.sublist_append_left _ _ | refine List.Sublist.trans ?_ (List.sublist_append_right _ _)))), ?_⟩
          refine d_tk0 18 (np_then (np_then np_ret)) rfl (by kernel_rfl) (by kernel_rfl) (by kernel_rfl) (by kernel_rfl) (.inl (by first | exact SubL.out | repeat (first | exact List.Sublist.refl _ | exact List.nil_sublist _ | refine .cons_cons _ ?_ | refine .cons _ ?_ | refine List.Sublist.append (List.Sublist.refl _) ?_ | exact List.sublist_append_left _ _ | refine List.Sublist.trans ?_ (List.sublist_append_right _ _)))) ?_
          refine w_asg rfl (by (conv => lhs; whnf); first | done | rfl) ?_
          refine w_nil ⟨rfl, rfl, ?_⟩
          refine d_done (by kernel_rfl) ?_
          refine tq_n ?_
          refine c_ret ?_
          refine tq_r ?_
          exact rq_r (ra_c (by (conv => lhs; whnf); first | done | rfl) (by first | exact HasC.out | exact PutC.out | repeat (first | exact .here | apply Has.there | apply Put.there | apply Has.app | apply Put.app)) rfl (ra_c (by (conv => lhs; whnf); first | done | rfl) (by first | exact HasC.out | exact PutC.out | repeat (first | exact .here | apply Has.there | apply Put.there | apply Has.app | apply Put.app)) rfl (ra_t (by (conv => lhs; whnf); first | done | rfl) .nil))) (by first | exact SubL.out | repeat (first | exact List.Sublist.refl _ | exact List.nil_sublist _ | refine .cons_cons _ ?_ | refine .cons _ ?_ | refine List.Sublist.append (List.Sublist.refl _) ?_ | exact List.sublist_append_left _ _ | refine List.Sublist.trans ?_ (List.sublist_append_right _ _))) (PutR_inr (S := S39 ++ (Sv2 ++ (S' ++ (Sh ++ Sd)))) (hput.trans ((if_neg hc63).trans (if_pos hc82))) (by rw [hlph, hlN, show (((pg.length + 1 : Nat) : Int)) - 1 = (pg.length : Int) by omega]; rfl) (tabO_last (t := fgT t p) (q := p) (fgt_cl hcl) hlo' g1 g2 (by show OSl 102 2 _ _ (fgt (isP p) t.lo).length _; rw [fgt_len]; exact g3') g5 hS39 hpgl (by first | exact SubL.out | repeat (first | exact List.Sublist.refl _ | exact List.nil_sublist _ | refine .cons_cons _ ?_ | refine .cons _ ?_ | refine List.Sublist.append (List.Sublist.refl _) ?_ | exact List.sublist_append_left _ _ | refine List.Sublist.trans ?_ (List.sublist_append_right _ _))) (by first | exact SubL.out | repeat (first | exact List.Sublist.refl _ | exact List.nil_sublist _ | refine .cons_cons _ ?_ | refine .cons _ ?_ | refine List.Sublist.append (List.Sublist.refl _) ?_ | exact List.sublist_append_left _ _ | refine List.Sublist.trans ?_ (List.sublist_append_right _ _))) (by first | exact SubL.out | repeat (first | exact List.Sublist.refl _ | exact List.nil_sublist _ | refine .cons_cons _ ?_ | refine .cons _ ?_ | refine List.Sublist.append (List.Sublist.refl _) ?_ | exact List.sublist_append_left _ _ | refine List.Sublist.trans ?_ (List.sublist_append_right _ _))) (by first | exact SubL.out | repeat (first | exact List.Sublist.refl _ | exact List.nil_sublist _ | refine .cons_cons _ ?_ | refine .cons _ ?_ | refine List.Sublist.append (List.Sublist.refl _) ?_ | exact List.sublist_append_left _ _ | refine List.Sublist.trans ?_ (List.sublist_append_right _ _)))))
        · refine c_skip ?_
          refine tq_n ?_
          refine c_seq ?_
          refine c_region ?_
          refine x_bld rfl .nil rfl ?_
          refine x_bld rfl .nil rfl ?_
          refine x_stw rfl (by (conv => lhs; whnf); first | done | rfl) (by (conv => lhs; whnf); first | done | rfl) rfl rfl (by first | exact HasC.out | exact PutC.out | repeat (first | exact .here | apply Has.there | apply Put.there | apply Has.app | apply Put.app)) rfl ?_
          refine x_stw rfl (by (conv => lhs; whnf); first | done | rfl) (by (conv => lhs; whnf); first | done | rfl) rfl rfl (by first | exact HasC.out | exact PutC.out | repeat (first | exact .here | apply Has.there | apply Put.there | apply Has.app | apply Put.app)) rfl ?_
          refine w_asg rfl (by (conv => lhs; whnf); first | done | rfl) ?_
          refine w_nil ?_
          refine tq_n ?_
          refine c_ret ?_
          exact rq_r (ra_c (by (conv => lhs; whnf); first | done | rfl) (by first | exact HasC.out | exact PutC.out | repeat (first | exact .here | apply Has.there | apply Put.there | apply Has.app | apply Put.app)) rfl (ra_c (by (conv => lhs; whnf); first | done | rfl) (by first | exact HasC.out | exact PutC.out | repeat (first | exact .here | apply Has.there | apply Put.there | apply Has.app | apply Put.app)) rfl (ra_t (by (conv => lhs; whnf); first | done | rfl) .nil))) (by first | exact SubL.out | repeat (first | exact List.Sublist.refl _ | exact List.nil_sublist _ | refine .cons_cons _ ?_ | refine .cons _ ?_ | refine List.Sublist.append (List.Sublist.refl _) ?_ | exact List.sublist_append_left _ _ | refine List.Sublist.trans ?_ (List.sublist_append_right _ _))) (PutR_inl (e := 51) (hput.trans ((if_neg hc63).trans (if_neg hc82))) rfl)
end
end Go.Proofs.Ytnmhhelcaibdoaa.Pl
