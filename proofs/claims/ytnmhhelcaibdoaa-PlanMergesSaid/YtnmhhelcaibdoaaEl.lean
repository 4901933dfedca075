/- PlanMerges, walked. -/
import Derived.Test.YtnmhhelcaibdoaaEk
namespace Go.Proofs.Ytnmhhelcaibdoaa.Pl
open Go Go.RowKit Sl
set_option linter.unusedVariables false
set_option linter.unusedSimpArgs false
section
variable {w0 : World} {L : Own}
theorem cl_of {v : Value} {xs : List Cpy} {S L : Own} {w0 : World} (h : OSl 118 3 v (xs.flatMap enC3) xs.length S) (hl : xs.length ≤ 32) (hs : S.Sublist L) : CL w0 L v xs := SlR.ofOSl h rfl (by omega) hs
set_option maxHeartbeats 8000000 in
theorem merges_g {t : Tb} {Ad Ah Al : Option Addr} {cd ch cl : Nat} {b ph : Int} (h : TabR w0 L (.agg (cT t Ad cd Ah ch Al cl).toArray) t) (hb : b ≤ 9223372036854775807) : Gives Try.prog w0 L 10 [.agg (cT t Ad cd Ah ch Al cl).toArray, .int .i64 b, .int .i64 ph] (fun v' L' => v' = .bool true ∧ L' = L) := by
  refine enterP Try.func10 rfl Try.ntmps10 Try.results10 (Nat.le_of_ble_eq_true rfl) fun w hM => ?_
  have hT := h.at hM
  clear hM h
  have hlA := foldA_len (b := b) (mayT_may t).1
  have hlR := restA_len (mayT_may t).1
  refine c_seq ?_
  refine c_region ?_
  refine x_boxa rfl (by (conv => lhs; whnf) <;> rfl) ?_
  intro b3
  refine w_asg rfl (by (conv => lhs; whnf) <;> rfl) ?_
  refine w_nil ?_
  refine tq_n ?_
  refine c_seq ?_
  refine c_seq ?_
  refine c_region ?_
  refine x_callp (by decide) (live_g) rfl rfl rfl ?_
  refine w_not rfl (by (conv => lhs; whnf) <;> rfl) ?_
  refine w_nil ?_
  refine tq_n ?_
  refine c_cond_f rfl ?_
  refine c_skip ?_
  refine tq_n ?_
  refine c_seq ?_
  refine c_seq ?_
  refine c_region ?_
  refine x_ldao rfl (by (conv => lhs; whnf) <;> rfl) (by first | exact HasC.out | exact PutC.out) rfl ?_
  refine x_callp (by decide) (small_g (hT.sub (List.nil_sublist _))) rfl rfl rfl ?_
  refine w_notd rfl (by (conv => lhs; whnf) <;> rfl) ?_
  refine w_nil ?_
  refine tq_n ?_
  refine c_cond_d (by (conv => lhs; whnf) <;> rfl) (fun hc19 => ?_) (fun hc19 => ?_)
  · refine c_seq ?_
    refine c_region ?_
    refine w_asg rfl (by (conv => lhs; whnf) <;> rfl) ?_
    refine w_nil ?_
    refine tq_n ?_
    refine c_ret ?_
    refine tq_r ?_
    exact rq_r (ra_t (by (conv => lhs; whnf) <;> rfl) .nil) (List.nil_sublist _) (⟨rfl, rfl⟩)
  · refine c_skip ?_
    refine tq_n ?_
    refine c_seq ?_
    refine c_seq ?_
    refine d_begin_js ((List.Sublist.refl _)) [] mixed [20, 21, 22, 23, 24, 25, 26, 27, 28, 29, 30, 31, 32, 33, 34, 35] 35 (.bool (decide (False))) ?_ (fun g5 => ?_)
    · refine d_tk 0 np_jns rfl (by kernel_rfl) (by kernel_rfl) (by kernel_rfl) (by kernel_rfl) (by kernel_rfl) (by first | exact SubL.out | repeat (first | exact .refl _ | exact List.nil_sublist _ | refine .cons_cons _ ?_ | refine .cons _ ?_ | refine .append (.refl _) ?_ | exact List.sublist_append_left _ _ | refine .trans ?_ (List.sublist_append_right _ _))) ?_
      refine x_ldao rfl (by (conv => lhs; whnf) <;> rfl) (by first | exact HasC.out | exact PutC.out) rfl ?_
      refine w_nil ⟨rfl, rfl, ?_⟩
      refine d_tk0 1 np_jns rfl (by kernel_rfl) (by kernel_rfl) (by kernel_rfl) (by kernel_rfl) (.inl (by first | exact SubL.out | repeat (first | exact .refl _ | exact List.nil_sublist _ | refine .cons_cons _ ?_ | refine .cons _ ?_ | refine .append (.refl _) ?_ | exact List.sublist_append_left _ _ | refine .trans ?_ (List.sublist_append_right _ _)))) ?_
      refine w_mov rfl (by (conv => lhs; whnf) <;> rfl) ?_
      refine w_nil ⟨rfl, rfl, ?_⟩
      refine d_tk 3 np_jns rfl (by kernel_rfl) (by kernel_rfl) (by kernel_rfl) (by kernel_rfl) (by kernel_rfl) (by first | exact SubL.out | repeat (first | exact .refl _ | exact List.nil_sublist _ | refine .cons_cons _ ?_ | refine .cons _ ?_ | refine .append (.refl _) ?_ | exact List.sublist_append_left _ _ | refine .trans ?_ (List.sublist_append_right _ _))) ?_
      refine x_ldao rfl (by (conv => lhs; whnf) <;> rfl) (by first | exact HasC.out | exact PutC.out) rfl ?_
      refine w_nil ⟨rfl, rfl, ?_⟩
      refine d_tk0 4 np_jns rfl (by kernel_rfl) (by kernel_rfl) (by kernel_rfl) (by kernel_rfl) (.inl (by first | exact SubL.out | repeat (first | exact .refl _ | exact List.nil_sublist _ | refine .cons_cons _ ?_ | refine .cons _ ?_ | refine .append (.refl _) ?_ | exact List.sublist_append_left _ _ | refine .trans ?_ (List.sublist_append_right _ _)))) ?_
      refine w_mov rfl (by (conv => lhs; whnf) <;> rfl) ?_
      refine w_nil ⟨rfl, rfl, ?_⟩
      refine d_one 2 rfl (by kernel_rfl) ?_
      refine x_call (lfold_g (hT.sub (List.nil_sublist _))) rfl rfl rfl ?_
      rintro _ _ ⟨S37, rfl, hS37⟩
      refine w_nil ⟨rfl, (.inl (by first | exact SubL.out | repeat (first | exact .refl _ | exact List.nil_sublist _ | refine .cons_cons _ ?_ | refine .cons _ ?_ | refine .append (.refl _) ?_ | exact List.sublist_append_left _ _ | refine .trans ?_ (List.sublist_append_right _ _)))), ?_⟩
      refine d_one 5 rfl (by kernel_rfl) ?_
      refine x_call (foldr_g (hT.sub (List.nil_sublist _))) rfl rfl rfl ?_
      rintro _ _ ⟨S38, rfl, hS38⟩
      refine w_nil ⟨rfl, (.inl (by first | exact SubL.out | repeat (first | exact .refl _ | exact List.nil_sublist _ | refine .cons_cons _ ?_ | refine .cons _ ?_ | refine .append (.refl _) ?_ | exact List.sublist_append_left _ _ | refine .trans ?_ (List.sublist_append_right _ _)))), ?_⟩
      refine d_one 6 rfl (by kernel_rfl) ?_
      refine x_callp (by decide) (sameC_g (cl_of hS37 hlA (by first | exact SubL.out | repeat (first | exact .refl _ | exact List.nil_sublist _ | refine .cons_cons _ ?_ | refine .cons _ ?_ | refine .append (.refl _) ?_ | exact List.sublist_append_left _ _ | refine .trans ?_ (List.sublist_append_right _ _)))) (cl_of hS38 hlA (by first | exact SubL.out | repeat (first | exact .refl _ | exact List.nil_sublist _ | refine .cons_cons _ ?_ | refine .cons _ ?_ | refine .append (.refl _) ?_ | exact List.sublist_append_left _ _ | refine .trans ?_ (List.sublist_append_right _ _))))) rfl rfl rfl ?_
      refine w_nil ⟨rfl, (.inl (by first | exact SubL.out | repeat (first | exact .refl _ | exact List.nil_sublist _ | refine .cons_cons _ ?_ | refine .cons _ ?_ | refine .append (.refl _) ?_ | exact List.sublist_append_left _ _ | refine .trans ?_ (List.sublist_append_right _ _)))), ?_⟩
      refine d_tk0 7 np_jns rfl (by kernel_rfl) (by kernel_rfl) (by kernel_rfl) (by kernel_rfl) (.inl (by first | exact SubL.out | repeat (first | exact .refl _ | exact List.nil_sublist _ | refine .cons_cons _ ?_ | refine .cons _ ?_ | refine .append (.refl _) ?_ | exact List.sublist_append_left _ _ | refine .trans ?_ (List.sublist_append_right _ _)))) ?_
      refine w_notd rfl (by (conv => lhs; whnf) <;> rfl) ?_
      refine w_nil ⟨rfl, rfl, ?_⟩
      refine d_tk0 8 np_jns rfl (by kernel_rfl) (by kernel_rfl) (by kernel_rfl) (by kernel_rfl) (.inl (by first | exact SubL.out | repeat (first | exact .refl _ | exact List.nil_sublist _ | refine .cons_cons _ ?_ | refine .cons _ ?_ | refine .append (.refl _) ?_ | exact List.sublist_append_left _ _ | refine .trans ?_ (List.sublist_append_right _ _)))) ?_
      refine w_mov rfl (by (conv => lhs; whnf) <;> rfl) ?_
      refine w_nil ⟨rfl, rfl, ?_⟩
      refine d_tk 9 np_jns rfl (by kernel_rfl) (by kernel_rfl) (by kernel_rfl) (by kernel_rfl) (by kernel_rfl) (by first | exact SubL.out | repeat (first | exact .refl _ | exact List.nil_sublist _ | refine .cons_cons _ ?_ | refine .cons _ ?_ | refine .append (.refl _) ?_ | exact List.sublist_append_left _ _ | refine .trans ?_ (List.sublist_append_right _ _))) ?_
      refine w_cases_od rfl rfl rfl (fun hg => ?_) (fun hg => ?_)
      · refine w_skip rfl ?_
        refine w_nil ⟨rfl, rfl, ?_⟩
        refine d_tk 11 np_jns rfl (by kernel_rfl) (by kernel_rfl) (by kernel_rfl) (by kernel_rfl) (by kernel_rfl) (by first | exact SubL.out | repeat (first | exact .refl _ | exact List.nil_sublist _ | refine .cons_cons _ ?_ | refine .cons _ ?_ | refine .append (.refl _) ?_ | exact List.sublist_append_left _ _ | refine .trans ?_ (List.sublist_append_right _ _))) ?_
        refine w_skip rfl ?_
        refine w_nil ⟨rfl, rfl, ?_⟩
        refine d_one 10 rfl (by kernel_rfl) ?_
        refine w_skip rfl ?_
        refine w_nil ⟨rfl, (.inl (by first | exact SubL.out | repeat (first | exact .refl _ | exact List.nil_sublist _ | refine .cons_cons _ ?_ | refine .cons _ ?_ | refine .append (.refl _) ?_ | exact List.sublist_append_left _ _ | refine .trans ?_ (List.sublist_append_right _ _)))), ?_⟩
        refine d_one 12 rfl (by kernel_rfl) ?_
        refine w_skip rfl ?_
        refine w_nil ⟨rfl, (.inl (by first | exact SubL.out | repeat (first | exact .refl _ | exact List.nil_sublist _ | refine .cons_cons _ ?_ | refine .cons _ ?_ | refine .append (.refl _) ?_ | exact List.sublist_append_left _ _ | refine .trans ?_ (List.sublist_append_right _ _)))), ?_⟩
        refine d_one 13 rfl (by kernel_rfl) ?_
        refine w_skip rfl ?_
        refine w_nil ⟨rfl, (.inl (by first | exact SubL.out | repeat (first | exact .refl _ | exact List.nil_sublist _ | refine .cons_cons _ ?_ | refine .cons _ ?_ | refine .append (.refl _) ?_ | exact List.sublist_append_left _ _ | refine .trans ?_ (List.sublist_append_right _ _)))), ?_⟩
        refine d_tk0 14 np_jns rfl (by kernel_rfl) (by kernel_rfl) (by kernel_rfl) (by kernel_rfl) (.inl (by first | exact SubL.out | repeat (first | exact .refl _ | exact List.nil_sublist _ | refine .cons_cons _ ?_ | refine .cons _ ?_ | refine .append (.refl _) ?_ | exact List.sublist_append_left _ _ | refine .trans ?_ (List.sublist_append_right _ _)))) ?_
        refine w_skip rfl ?_
        refine w_nil ⟨rfl, rfl, ?_⟩
        refine d_tk0 15 np_jns rfl (by kernel_rfl) (by kernel_rfl) (by kernel_rfl) (by kernel_rfl) (.inl (by first | exact SubL.out | repeat (first | exact .refl _ | exact List.nil_sublist _ | refine .cons_cons _ ?_ | refine .cons _ ?_ | refine .append (.refl _) ?_ | exact List.sublist_append_left _ _ | refine .trans ?_ (List.sublist_append_right _ _)))) ?_
        first | refine w_pick_t rfl rfl (by (conv => lhs; whnf) <;> rfl) ?_ | refine w_pick_f rfl rfl (by (conv => lhs; whnf) <;> rfl) ?_
        refine w_nil ⟨rfl, rfl, ?_⟩
        refine d_done (by kernel_rfl) ?_
        refine jns (by repeat (first | exact Ag.refl | exact Ag.ov | (refine Ag.upd ?_ ?_; exact rfl) | refine Ag.putn ?_ | (refine Ag.ovs ?_ ?_; exact rfl))) (by (conv => lhs; whnf) <;> rfl) (by first | exact SubL.out | repeat (first | exact .refl _ | exact List.nil_sublist _ | refine .cons_cons _ ?_ | refine .cons _ ?_ | refine .append (.refl _) ?_ | exact List.sublist_append_left _ _ | refine .trans ?_ (List.sublist_append_right _ _))) ?_
        exact congrArg Value.bool (by first | exact absurd rfl hg | exact decide_eq_decide.2 ⟨fun h => absurd rfl h, False.elim⟩)
      · refine x_ldao rfl (by (conv => lhs; whnf) <;> rfl) (by first | exact HasC.out | exact PutC.out) rfl ?_
        refine w_nil ⟨rfl, rfl, ?_⟩
        refine d_tk 11 np_jns rfl (by kernel_rfl) (by kernel_rfl) (by kernel_rfl) (by kernel_rfl) (by kernel_rfl) (by first | exact SubL.out | repeat (first | exact .refl _ | exact List.nil_sublist _ | refine .cons_cons _ ?_ | refine .cons _ ?_ | refine .append (.refl _) ?_ | exact List.sublist_append_left _ _ | refine .trans ?_ (List.sublist_append_right _ _))) ?_
        refine x_ldao rfl (by (conv => lhs; whnf) <;> rfl) (by first | exact HasC.out | exact PutC.out) rfl ?_
        refine w_nil ⟨rfl, rfl, ?_⟩
        refine d_one 10 rfl (by kernel_rfl) ?_
        refine x_call (lrest_g (hT.sub (List.nil_sublist _))) rfl rfl rfl ?_
        rintro _ _ ⟨S39, rfl, hS39⟩
        refine w_nil ⟨rfl, (.inl (by first | exact SubL.out | repeat (first | exact .refl _ | exact List.nil_sublist _ | refine .cons_cons _ ?_ | refine .cons _ ?_ | refine .append (.refl _) ?_ | exact List.sublist_append_left _ _ | refine .trans ?_ (List.sublist_append_right _ _)))), ?_⟩
        refine d_one 12 rfl (by kernel_rfl) ?_
        refine x_call (restr_g (hT.sub (List.nil_sublist _))) rfl rfl rfl ?_
        rintro _ _ ⟨S40, rfl, hS40⟩
        refine w_nil ⟨rfl, (.inl (by first | exact SubL.out | repeat (first | exact .refl _ | exact List.nil_sublist _ | refine .cons_cons _ ?_ | refine .cons _ ?_ | refine .append (.refl _) ?_ | exact List.sublist_append_left _ _ | refine .trans ?_ (List.sublist_append_right _ _)))), ?_⟩
        refine d_one 13 rfl (by kernel_rfl) ?_
        refine x_callp (by decide) (sameC_g (cl_of hS39 hlR (by first | exact SubL.out | repeat (first | exact .refl _ | exact List.nil_sublist _ | refine .cons_cons _ ?_ | refine .cons _ ?_ | refine .append (.refl _) ?_ | exact List.sublist_append_left _ _ | refine .trans ?_ (List.sublist_append_right _ _)))) (cl_of hS40 hlR (by first | exact SubL.out | repeat (first | exact .refl _ | exact List.nil_sublist _ | refine .cons_cons _ ?_ | refine .cons _ ?_ | refine .append (.refl _) ?_ | exact List.sublist_append_left _ _ | refine .trans ?_ (List.sublist_append_right _ _))))) rfl rfl rfl ?_
        refine w_nil ⟨rfl, (.inl (by first | exact SubL.out | repeat (first | exact .refl _ | exact List.nil_sublist _ | refine .cons_cons _ ?_ | refine .cons _ ?_ | refine .append (.refl _) ?_ | exact List.sublist_append_left _ _ | refine .trans ?_ (List.sublist_append_right _ _)))), ?_⟩
        refine d_tk0 14 np_jns rfl (by kernel_rfl) (by kernel_rfl) (by kernel_rfl) (by kernel_rfl) (.inl (by first | exact SubL.out | repeat (first | exact .refl _ | exact List.nil_sublist _ | refine .cons_cons _ ?_ | refine .cons _ ?_ | refine .append (.refl _) ?_ | exact List.sublist_append_left _ _ | refine .trans ?_ (List.sublist_append_right _ _)))) ?_
        refine w_notd rfl (by (conv => lhs; whnf) <;> rfl) ?_
        refine w_nil ⟨rfl, rfl, ?_⟩
        refine d_tk0 15 np_jns rfl (by kernel_rfl) (by kernel_rfl) (by kernel_rfl) (by kernel_rfl) (.inl (by first | exact SubL.out | repeat (first | exact .refl _ | exact List.nil_sublist _ | refine .cons_cons _ ?_ | refine .cons _ ?_ | refine .append (.refl _) ?_ | exact List.sublist_append_left _ _ | refine .trans ?_ (List.sublist_append_right _ _)))) ?_
        first | refine w_pick_t rfl rfl (by (conv => lhs; whnf) <;> rfl) ?_ | refine w_pick_f rfl rfl (by (conv => lhs; whnf) <;> rfl) ?_
        refine w_nil ⟨rfl, rfl, ?_⟩
        refine d_done (by kernel_rfl) ?_
        refine jns (by repeat (first | exact Ag.refl | exact Ag.ov | (refine Ag.upd ?_ ?_; exact rfl) | refine Ag.putn ?_ | (refine Ag.ovs ?_ ?_; exact rfl))) (by (conv => lhs; whnf) <;> rfl) (by first | exact SubL.out | repeat (first | exact .refl _ | exact List.nil_sublist _ | refine .cons_cons _ ?_ | refine .cons _ ?_ | refine .append (.refl _) ?_ | exact List.sublist_append_left _ _ | refine .trans ?_ (List.sublist_append_right _ _))) ?_
        exact congrArg Value.bool (by first | exact absurd rfl hg | exact decide_eq_decide.2 ⟨fun h => absurd rfl h, False.elim⟩)
    refine tq_n ?_
    refine c_cond_d (by (conv => lhs; whnf) <;> rfl) (fun hc35 => ?_) (fun hc35 => ?_)
    · exact hc35.elim
    · refine c_skip ?_
      refine tq_n ?_
      refine c_seq ?_
      refine c_region ?_
      refine x_ldao rfl (by (conv => lhs; whnf) <;> rfl) (by first | exact HasC.out | exact PutC.out) rfl ?_
      refine w_mov rfl (by (conv => lhs; whnf) <;> rfl) ?_
      refine w_mov rfl (by (conv => lhs; whnf) <;> rfl) ?_
      refine x_call (folded_g (hT.sub (List.nil_sublist _)) hb) rfl rfl rfl ?_
      rintro _ _ ⟨S31, rfl, hF⟩
      obtain ⟨a0, a1, a2, a3, a4, a5, a6, a7, a8, alv, rfl, hao, halo, haT, haF⟩ := FdR_tb hF
      refine w_mov rfl (by (conv => lhs; whnf) <;> rfl) ?_
      refine w_ext rfl (by (conv => lhs; whnf) <;> rfl) (by (conv => lhs; whnf) <;> rfl) ?_
      refine w_ext rfl (by (conv => lhs; whnf) <;> rfl) (by (conv => lhs; whnf) <;> rfl) ?_
      refine w_ext rfl (by (conv => lhs; whnf) <;> rfl) (by (conv => lhs; whnf) <;> rfl) ?_
      refine x_al rfl ?_
      intro b7
      refine x_stw rfl (by (conv => lhs; whnf) <;> rfl) (by (conv => lhs; whnf) <;> rfl) (rfl) (hao) (by first | exact HasC.out | exact PutC.out) (by exact rfl) ?_
      refine w_asg rfl (by (conv => lhs; whnf) <;> rfl) ?_
      refine w_asg rfl (by (conv => lhs; whnf) <;> rfl) ?_
      refine w_nil ?_
      refine tq_n ?_
      refine c_seq ?_
      refine c_region ?_
      refine x_ldao rfl (by (conv => lhs; whnf) <;> rfl) (by first | exact HasC.out | exact PutC.out) rfl ?_
      refine w_mov rfl (by (conv => lhs; whnf) <;> rfl) ?_
      refine w_mov rfl (by (conv => lhs; whnf) <;> rfl) ?_
      refine x_call (foldedr_g (hT.sub (List.nil_sublist _))) rfl rfl rfl ?_
      rintro _ _ ⟨S41, rfl, hF'⟩
      obtain ⟨d0, d1, d2, d3, d4, d5, d6, d7, d8, dlv, rfl, hdo, hdlo, hdT, hdF⟩ := FdR_tb hF'
      refine w_mov rfl (by (conv => lhs; whnf) <;> rfl) ?_
      refine w_ext rfl (by (conv => lhs; whnf) <;> rfl) (by (conv => lhs; whnf) <;> rfl) ?_
      refine w_ext rfl (by (conv => lhs; whnf) <;> rfl) (by (conv => lhs; whnf) <;> rfl) ?_
      refine w_ext rfl (by (conv => lhs; whnf) <;> rfl) (by (conv => lhs; whnf) <;> rfl) ?_
      refine x_al rfl ?_
      intro b10
      refine x_stw rfl (by (conv => lhs; whnf) <;> rfl) (by (conv => lhs; whnf) <;> rfl) (rfl) (hdo) (by first | exact HasC.out | exact PutC.out) (by exact rfl) ?_
      refine w_asg rfl (by (conv => lhs; whnf) <;> rfl) ?_
      refine w_asg rfl (by (conv => lhs; whnf) <;> rfl) ?_
      refine w_nil ?_
      refine tq_n ?_
      refine c_seq ?_
      refine c_seq ?_
      refine c_region_j [52, 53, 54, 55, 56, 57, 58, 59, 60, 61, 62, 63, 64, 65, 66] 66 (.bool (decide (False))) ?_ (fun g9 => ?_)
      · all_goals (refine x_ldao rfl (by (conv => lhs; whnf) <;> rfl) (by first | exact HasC.out | exact PutC.out) rfl ?_)
        all_goals (refine x_ldao rfl (by (conv => lhs; whnf) <;> rfl) (by first | exact HasC.out | exact PutC.out) rfl ?_)
        all_goals (refine x_callp (by decide) (samer_g (haT.use (by first | exact SubL.out | repeat (first | exact .refl _ | exact List.nil_sublist _ | refine .cons_cons _ ?_ | refine .cons _ ?_ | refine .append (.refl _) ?_ | exact List.sublist_append_left _ _ | refine .trans ?_ (List.sublist_append_right _ _)))) (hdT.use (by first | exact SubL.out | repeat (first | exact .refl _ | exact List.nil_sublist _ | refine .cons_cons _ ?_ | refine .cons _ ?_ | refine .append (.refl _) ?_ | exact List.sublist_append_left _ _ | refine .trans ?_ (List.sublist_append_right _ _))))) rfl rfl rfl ?_)
        all_goals (refine w_notd rfl (by (conv => lhs; whnf) <;> rfl) ?_)
        all_goals (refine w_mov rfl (by (conv => lhs; whnf) <;> rfl) ?_)
        all_goals (first | refine w_lit true rfl rfl rfl ?_ | refine w_lit false rfl rfl rfl ?_ | refine w_cases_od rfl rfl rfl (fun hg => ?_) (fun hg => ?_) | refine w_cases_o rfl rfl rfl (fun hg => ?_) (fun hg => ?_) | skip)
        all_goals (first | refine w_skip rfl ?_ | (refine w_mov rfl (by (conv => lhs; whnf) <;> rfl) ?_))
        all_goals (first | refine w_skip rfl ?_ | (refine w_mov rfl (by (conv => lhs; whnf) <;> rfl) ?_))
        all_goals (first | refine w_skip rfl ?_ | (refine x_callp (by decide) (eqI_g (haF _ _ (by first | exact SubL.out | repeat (first | exact .refl _ | exact List.nil_sublist _ | refine .cons_cons _ ?_ | refine .cons _ ?_ | refine .append (.refl _) ?_ | exact List.sublist_append_left _ _ | refine .trans ?_ (List.sublist_append_right _ _)))) (hdF _ _ (by first | exact SubL.out | repeat (first | exact .refl _ | exact List.nil_sublist _ | refine .cons_cons _ ?_ | refine .cons _ ?_ | refine .append (.refl _) ?_ | exact List.sublist_append_left _ _ | refine .trans ?_ (List.sublist_append_right _ _))))) rfl rfl rfl ?_))
        all_goals (first | refine w_skip rfl ?_ | (refine w_notd rfl (by (conv => lhs; whnf) <;> rfl) ?_))
        all_goals (first | refine w_pick_t rfl rfl (by (conv => lhs; whnf) <;> rfl) ?_ | refine w_pick_f rfl rfl (by (conv => lhs; whnf) <;> rfl) ?_)
        all_goals (refine w_mov rfl (by (conv => lhs; whnf) <;> rfl) ?_)
        all_goals (first | refine w_lit true rfl rfl rfl ?_ | refine w_lit false rfl rfl rfl ?_ | refine w_cases_od rfl rfl rfl (fun hg => ?_) (fun hg => ?_) | refine w_cases_o rfl rfl rfl (fun hg => ?_) (fun hg => ?_) | skip)
        all_goals (first | refine w_skip rfl ?_ | (refine w_mov rfl (by (conv => lhs; whnf) <;> rfl) ?_))
        all_goals (first | refine w_skip rfl ?_ | (refine w_mov rfl (by (conv => lhs; whnf) <;> rfl) ?_))
        all_goals (first | refine w_skip rfl ?_ | (refine w_neq rfl (by (conv => lhs; whnf) <;> rfl) (by (conv => lhs; whnf) <;> rfl) ?_))
        all_goals (first | refine w_pick_t rfl rfl (by (conv => lhs; whnf) <;> rfl) ?_ | refine w_pick_f rfl rfl (by (conv => lhs; whnf) <;> rfl) ?_)
        all_goals (refine w_nil ?_)
        all_goals (refine jn (by first | exact (Ag.upd rfl (Ag.upd rfl (Ag.upd rfl (Ag.upd rfl (Ag.upd rfl (Ag.upd rfl (Ag.upd rfl (Ag.upd rfl (Ag.upd rfl (Ag.upd rfl (Ag.upd rfl (Ag.upd rfl (Ag.upd rfl (Ag.upd rfl (Ag.upd rfl Ag.refl))))))))))))))) | exact (by repeat (first | exact Ag.refl | exact Ag.ov | (refine Ag.upd ?_ ?_; exact rfl) | refine Ag.putn ?_ | (refine Ag.ovs ?_ ?_; exact rfl)))) (by (conv => lhs; whnf) <;> rfl) ?_)
        all_goals (exact congrArg Value.bool (by first | exact absurd rfl hg | exact decide_eq_decide.2 ⟨fun h => absurd rfl h, False.elim⟩))
      refine tq_n ?_
      refine c_cond_d (by (conv => lhs; whnf) <;> rfl) (fun hc66 => ?_) (fun hc66 => ?_)
      · exact hc66.elim
      · refine c_skip ?_
        refine tq_n ?_
        refine c_seq ?_
        refine c_region ?_
        refine x_ldao rfl (by (conv => lhs; whnf) <;> rfl) (by first | exact HasC.out | exact PutC.out) rfl ?_
        refine x_call (switched_g (hT.sub (List.nil_sublist _))) rfl rfl rfl ?_
        rintro _ _ ⟨S33, rfl, hG⟩
        obtain ⟨e0, e1, e2, e3, e4, e5, e6, e7, e8, elv, rfl, heo, helo, heT, heF⟩ := FdR_tb hG
        refine w_mov rfl (by (conv => lhs; whnf) <;> rfl) ?_
        refine w_ext rfl (by (conv => lhs; whnf) <;> rfl) (by (conv => lhs; whnf) <;> rfl) ?_
        refine w_ext rfl (by (conv => lhs; whnf) <;> rfl) (by (conv => lhs; whnf) <;> rfl) ?_
        refine w_ext rfl (by (conv => lhs; whnf) <;> rfl) (by (conv => lhs; whnf) <;> rfl) ?_
        refine x_stw rfl (by (conv => lhs; whnf) <;> rfl) (by (conv => lhs; whnf) <;> rfl) (rfl) (heo) (by first | exact HasC.out | exact PutC.out) (by exact rfl) ?_
        refine w_asg rfl (by (conv => lhs; whnf) <;> rfl) ?_
        refine w_asg rfl (by (conv => lhs; whnf) <;> rfl) ?_
        refine w_nil ?_
        refine tq_n ?_
        refine c_seq ?_
        refine c_region ?_
        refine x_ldao rfl (by (conv => lhs; whnf) <;> rfl) (by first | exact HasC.out | exact PutC.out) rfl ?_
        refine x_call (switchedr_g (hT.sub (List.nil_sublist _))) rfl rfl rfl ?_
        rintro _ _ ⟨S43, rfl, hG'⟩
        obtain ⟨f0, f1, f2, f3, f4, f5, f6, f7, f8, flv, rfl, hfo, hflo, hfT, hfF⟩ := FdR_tb hG'
        refine w_mov rfl (by (conv => lhs; whnf) <;> rfl) ?_
        refine w_ext rfl (by (conv => lhs; whnf) <;> rfl) (by (conv => lhs; whnf) <;> rfl) ?_
        refine w_ext rfl (by (conv => lhs; whnf) <;> rfl) (by (conv => lhs; whnf) <;> rfl) ?_
        refine w_ext rfl (by (conv => lhs; whnf) <;> rfl) (by (conv => lhs; whnf) <;> rfl) ?_
        refine x_stw rfl (by (conv => lhs; whnf) <;> rfl) (by (conv => lhs; whnf) <;> rfl) (rfl) (hfo) (by first | exact HasC.out | exact PutC.out) (by exact rfl) ?_
        refine w_asg rfl (by (conv => lhs; whnf) <;> rfl) ?_
        refine w_asg rfl (by (conv => lhs; whnf) <;> rfl) ?_
        refine w_nil ?_
        refine tq_n ?_
        refine c_seq ?_
        refine c_seq ?_
        refine c_region_j [79, 80, 81, 82, 83, 84, 85, 86, 87, 88, 89, 90, 91, 92, 93] 93 (.bool (decide (False))) ?_ (fun g13 => ?_)
        · all_goals (refine x_ldao rfl (by (conv => lhs; whnf) <;> rfl) (by first | exact HasC.out | exact PutC.out) rfl ?_)
          all_goals (refine x_ldao rfl (by (conv => lhs; whnf) <;> rfl) (by first | exact HasC.out | exact PutC.out) rfl ?_)
          all_goals (refine x_callp (by decide) (samer_g (heT.use (by first | exact SubL.out | repeat (first | exact .refl _ | exact List.nil_sublist _ | refine .cons_cons _ ?_ | refine .cons _ ?_ | refine .append (.refl _) ?_ | exact List.sublist_append_left _ _ | refine .trans ?_ (List.sublist_append_right _ _)))) (hfT.use (by first | exact SubL.out | repeat (first | exact .refl _ | exact List.nil_sublist _ | refine .cons_cons _ ?_ | refine .cons _ ?_ | refine .append (.refl _) ?_ | exact List.sublist_append_left _ _ | refine .trans ?_ (List.sublist_append_right _ _))))) rfl rfl rfl ?_)
          all_goals (refine w_notd rfl (by (conv => lhs; whnf) <;> rfl) ?_)
          all_goals (refine w_mov rfl (by (conv => lhs; whnf) <;> rfl) ?_)
          all_goals (first | refine w_lit true rfl rfl rfl ?_ | refine w_lit false rfl rfl rfl ?_ | refine w_cases_od rfl rfl rfl (fun hg => ?_) (fun hg => ?_) | refine w_cases_o rfl rfl rfl (fun hg => ?_) (fun hg => ?_) | skip)
          all_goals (first | refine w_skip rfl ?_ | (refine w_mov rfl (by (conv => lhs; whnf) <;> rfl) ?_))
          all_goals (first | refine w_skip rfl ?_ | (refine w_mov rfl (by (conv => lhs; whnf) <;> rfl) ?_))
          all_goals (first | refine w_skip rfl ?_ | (refine x_callp (by decide) (eqI_g (heF _ _ (by first | exact SubL.out | repeat (first | exact .refl _ | exact List.nil_sublist _ | refine .cons_cons _ ?_ | refine .cons _ ?_ | refine .append (.refl _) ?_ | exact List.sublist_append_left _ _ | refine .trans ?_ (List.sublist_append_right _ _)))) (hfF _ _ (by first | exact SubL.out | repeat (first | exact .refl _ | exact List.nil_sublist _ | refine .cons_cons _ ?_ | refine .cons _ ?_ | refine .append (.refl _) ?_ | exact List.sublist_append_left _ _ | refine .trans ?_ (List.sublist_append_right _ _))))) rfl rfl rfl ?_))
          all_goals (first | refine w_skip rfl ?_ | (refine w_notd rfl (by (conv => lhs; whnf) <;> rfl) ?_))
          all_goals (first | refine w_pick_t rfl rfl (by (conv => lhs; whnf) <;> rfl) ?_ | refine w_pick_f rfl rfl (by (conv => lhs; whnf) <;> rfl) ?_)
          all_goals (refine w_mov rfl (by (conv => lhs; whnf) <;> rfl) ?_)
          all_goals (first | refine w_lit true rfl rfl rfl ?_ | refine w_lit false rfl rfl rfl ?_ | refine w_cases_od rfl rfl rfl (fun hg => ?_) (fun hg => ?_) | refine w_cases_o rfl rfl rfl (fun hg => ?_) (fun hg => ?_) | skip)
          all_goals (first | refine w_skip rfl ?_ | (refine w_mov rfl (by (conv => lhs; whnf) <;> rfl) ?_))
          all_goals (first | refine w_skip rfl ?_ | (refine w_mov rfl (by (conv => lhs; whnf) <;> rfl) ?_))
          all_goals (first | refine w_skip rfl ?_ | (refine w_neq rfl (by (conv => lhs; whnf) <;> rfl) (by (conv => lhs; whnf) <;> rfl) ?_))
          all_goals (first | refine w_pick_t rfl rfl (by (conv => lhs; whnf) <;> rfl) ?_ | refine w_pick_f rfl rfl (by (conv => lhs; whnf) <;> rfl) ?_)
          all_goals (refine w_nil ?_)
          all_goals (refine jn (by first | exact (Ag.upd rfl (Ag.upd rfl (Ag.upd rfl (Ag.upd rfl (Ag.upd rfl (Ag.upd rfl (Ag.upd rfl (Ag.upd rfl (Ag.upd rfl (Ag.upd rfl (Ag.upd rfl (Ag.upd rfl (Ag.upd rfl (Ag.upd rfl (Ag.upd rfl Ag.refl))))))))))))))) | exact (by repeat (first | exact Ag.refl | exact Ag.ov | (refine Ag.upd ?_ ?_; exact rfl) | refine Ag.putn ?_ | (refine Ag.ovs ?_ ?_; exact rfl)))) (by (conv => lhs; whnf) <;> rfl) ?_)
          all_goals (exact congrArg Value.bool (by first | exact absurd rfl hg | exact decide_eq_decide.2 ⟨fun h => absurd rfl h, False.elim⟩))
        refine tq_n ?_
        refine c_cond_d (by (conv => lhs; whnf) <;> rfl) (fun hc93 => ?_) (fun hc93 => ?_)
        · exact hc93.elim
        · refine c_skip ?_
          refine tq_n ?_
          refine c_seq ?_
          refine c_region ?_
          refine x_ldao rfl (by (conv => lhs; whnf) <;> rfl) (by first | exact HasC.out | exact PutC.out) rfl ?_
          refine x_call (dropped_g (hT.sub (List.nil_sublist _))) rfl rfl rfl ?_
          rintro _ _ ⟨S29, rfl, hD⟩
          obtain ⟨r0, r1, r2, r3, r4, r5, r6, r7, r8, rfl, hro, hrT⟩ := DrR_tb hD
          refine w_mov rfl (by (conv => lhs; whnf) <;> rfl) ?_
          refine w_ext rfl (by (conv => lhs; whnf) <;> rfl) (by (conv => lhs; whnf) <;> rfl) ?_
          refine w_ext rfl (by (conv => lhs; whnf) <;> rfl) (by (conv => lhs; whnf) <;> rfl) ?_
          refine w_ext rfl (by (conv => lhs; whnf) <;> rfl) (by (conv => lhs; whnf) <;> rfl) ?_
          refine x_stw rfl (by (conv => lhs; whnf) <;> rfl) (by (conv => lhs; whnf) <;> rfl) (rfl) (hro) (by first | exact HasC.out | exact PutC.out) (by exact rfl) ?_
          refine w_asg rfl (by (conv => lhs; whnf) <;> rfl) ?_
          refine w_asg rfl (by (conv => lhs; whnf) <;> rfl) ?_
          refine w_nil ?_
          refine tq_n ?_
          refine c_seq ?_
          refine c_region ?_
          refine x_ldao rfl (by (conv => lhs; whnf) <;> rfl) (by first | exact HasC.out | exact PutC.out) rfl ?_
          refine x_call (droppedm_g (hT.sub (List.nil_sublist _))) rfl rfl rfl ?_
          rintro _ _ ⟨S44, rfl, hD'⟩
          obtain ⟨s0, s1, s2, s3, s4, s5, s6, s7, s8, rfl, hso, hsT⟩ := DrR_tb hD'
          refine w_mov rfl (by (conv => lhs; whnf) <;> rfl) ?_
          refine w_ext rfl (by (conv => lhs; whnf) <;> rfl) (by (conv => lhs; whnf) <;> rfl) ?_
          refine w_ext rfl (by (conv => lhs; whnf) <;> rfl) (by (conv => lhs; whnf) <;> rfl) ?_
          refine w_ext rfl (by (conv => lhs; whnf) <;> rfl) (by (conv => lhs; whnf) <;> rfl) ?_
          refine x_stw rfl (by (conv => lhs; whnf) <;> rfl) (by (conv => lhs; whnf) <;> rfl) (rfl) (hso) (by first | exact HasC.out | exact PutC.out) (by exact rfl) ?_
          refine w_asg rfl (by (conv => lhs; whnf) <;> rfl) ?_
          refine w_asg rfl (by (conv => lhs; whnf) <;> rfl) ?_
          refine w_nil ?_
          refine tq_n ?_
          refine c_seq ?_
          refine c_region_j [106, 107, 108, 109, 110, 111, 112, 113, 114, 115, 116, 117, 118, 6] 6 (.bool (decide (True))) ?_ (fun g17 => ?_)
          · all_goals (refine x_ldao rfl (by (conv => lhs; whnf) <;> rfl) (by first | exact HasC.out | exact PutC.out) rfl ?_)
            all_goals (refine x_ldao rfl (by (conv => lhs; whnf) <;> rfl) (by first | exact HasC.out | exact PutC.out) rfl ?_)
            all_goals (refine x_callp (by decide) (samer_g (hrT.use (by first | exact SubL.out | repeat (first | exact .refl _ | exact List.nil_sublist _ | refine .cons_cons _ ?_ | refine .cons _ ?_ | refine .append (.refl _) ?_ | exact List.sublist_append_left _ _ | refine .trans ?_ (List.sublist_append_right _ _)))) (hsT.use (by first | exact SubL.out | repeat (first | exact .refl _ | exact List.nil_sublist _ | refine .cons_cons _ ?_ | refine .cons _ ?_ | refine .append (.refl _) ?_ | exact List.sublist_append_left _ _ | refine .trans ?_ (List.sublist_append_right _ _))))) rfl rfl rfl ?_)
            all_goals (refine w_mov rfl (by (conv => lhs; whnf) <;> rfl) ?_)
            all_goals (first | refine w_lit true rfl rfl rfl ?_ | refine w_lit false rfl rfl rfl ?_ | refine w_cases_od rfl rfl rfl (fun hg => ?_) (fun hg => ?_) | refine w_cases_o rfl rfl rfl (fun hg => ?_) (fun hg => ?_) | skip)
            all_goals (first | refine w_skip rfl ?_ | (refine w_mov rfl (by (conv => lhs; whnf) <;> rfl) ?_))
            all_goals (first | refine w_skip rfl ?_ | (refine w_mov rfl (by (conv => lhs; whnf) <;> rfl) ?_))
            all_goals (first | refine w_skip rfl ?_ | (refine w_eql rfl (by (conv => lhs; whnf) <;> rfl) (by (conv => lhs; whnf) <;> rfl) ?_))
            all_goals (first | refine w_pick_t rfl rfl (by (conv => lhs; whnf) <;> rfl) ?_ | refine w_pick_f rfl rfl (by (conv => lhs; whnf) <;> rfl) ?_)
            all_goals (refine w_mov rfl (by (conv => lhs; whnf) <;> rfl) ?_)
            all_goals (first | refine w_lit true rfl rfl rfl ?_ | refine w_lit false rfl rfl rfl ?_ | refine w_cases_od rfl rfl rfl (fun hg => ?_) (fun hg => ?_) | refine w_cases_o rfl rfl rfl (fun hg => ?_) (fun hg => ?_) | skip)
            all_goals (first | refine w_skip rfl ?_ | (refine w_mov rfl (by (conv => lhs; whnf) <;> rfl) ?_))
            all_goals (first | refine w_skip rfl ?_ | (refine w_mov rfl (by (conv => lhs; whnf) <;> rfl) ?_))
            all_goals (first | refine w_skip rfl ?_ | (refine w_eql rfl (by (conv => lhs; whnf) <;> rfl) (by (conv => lhs; whnf) <;> rfl) ?_))
            all_goals (first | refine w_pick_t rfl rfl (by (conv => lhs; whnf) <;> rfl) ?_ | refine w_pick_f rfl rfl (by (conv => lhs; whnf) <;> rfl) ?_)
            all_goals (refine w_asg rfl (by (conv => lhs; whnf) <;> rfl) ?_)
            all_goals (refine w_nil ?_)
            all_goals (refine jn (by first | exact (Ag.upd rfl (Ag.upd rfl (Ag.upd rfl (Ag.upd rfl (Ag.upd rfl (Ag.upd rfl (Ag.upd rfl (Ag.upd rfl (Ag.upd rfl (Ag.upd rfl (Ag.upd rfl (Ag.upd rfl (Ag.upd rfl (Ag.upd rfl Ag.refl)))))))))))))) | exact (by repeat (first | exact Ag.refl | exact Ag.ov | (refine Ag.upd ?_ ?_; exact rfl) | refine Ag.putn ?_ | (refine Ag.ovs ?_ ?_; exact rfl)))) (by (conv => lhs; whnf) <;> rfl) ?_)
            all_goals (exact congrArg Value.bool (by first | exact absurd rfl hg | exact (decide_eq_true rfl).trans (decide_eq_true trivial).symm))
          refine tq_n ?_
          refine c_ret ?_
          exact rq_r (ra_t (by (conv => lhs; whnf) <;> rfl) .nil) (List.nil_sublist _) (⟨rfl, rfl⟩)
end
end Go.Proofs.Ytnmhhelcaibdoaa.Pl
