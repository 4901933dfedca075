/- PlanStays and PlanKept: walked. -/
import Derived.Test.YtnmhhelcaibdoaaVf
import Derived.Test.YtnmhhelcaibdoaaPs
namespace Go.Proofs.Ytnmhhelcaibdoaa.Pl
open Go Go.RowKit Sl
set_option linter.unusedVariables false
set_option linter.unusedSimpArgs false
/-- The cells of a Four. -/
abbrev cF4 (t : Tb) (Ad : Option Addr) (cd : Nat) (Ah : Option Addr) (ch : Nat) (Al : Option Addr) (cl : Nat) (k b n ph : Int) : List Value := [.int .i64 t.P, .int .i64 t.G, .int .i64 t.K, .slice Ad t.da.length cd, .slice Ah t.ha.length ch, .int .i64 t.sp, .int .i64 t.sl, .int .i64 t.su, .slice Al t.lo.length cl, .int .i64 k, .int .i64 b, .int .i64 n, .int .i64 ph]
section
variable {w0 : World} {L : Own}
theorem check_known_g {v : Value} {x : Tb} (h : TabR w0 L v x) (hm : May x) : Gives Try.prog w0 L 30 [v] (fun v' L' => v' = .int .i64 0 ∧ L' = L) :=
  (check_g h).mono fun v' L' ⟨h1, h2⟩ => ⟨h1.trans (by rw [if_pos hm]), h2⟩
set_option maxHeartbeats 4000000 in
theorem stays_g {t : Tb} {Ad Ah Al : Option Addr} {cd ch cl : Nat} {k b n ph : Int} (h : TabR w0 L (.agg (cT t Ad cd Ah ch Al cl).toArray) t) (hn : n ≤ 9223372036854775807) : Gives Try.prog w0 L 7 [.agg (cF4 t Ad cd Ah ch Al cl k b n ph).toArray] (fun v' L' => v' = .bool true ∧ L' = L) := by
  refine enterP Try.func7 rfl Try.ntmps7 Try.results7 (Nat.le_of_ble_eq_true rfl) fun w hM => ?_
  have hT := h.at hM
  clear hM h
  refine c_seq ?_
  refine c_region ?_
  refine x_boxa rfl (by (conv => lhs; whnf); first | done | rfl) ?_
  intro b1
  refine w_asg rfl (by (conv => lhs; whnf); first | done | rfl) ?_
  refine w_nil ?_
  refine tq_n ?_
  refine c_seq ?_
  refine c_seq ?_
  refine c_region ?_
  refine x_callp (by decide) (live_g) rfl rfl rfl ?_
  refine w_not rfl (by (conv => lhs; whnf); first | done | rfl) ?_
  refine w_nil ?_
  refine tq_n ?_
  refine c_cond_f rfl ?_
  refine c_skip ?_
  refine tq_n ?_
  refine c_mid_p [26, 27, 28, 29, 30, 31, 32, 33, 3, 4, 5, 6] (fun s L => ∃ (x y : Nat), s = [(3, .pointer (some ⟨x, 0, none⟩)), (4, .pointer (some ⟨y, 0, none⟩)), (5, .int .i64 n), (6, .int .i64 ph)] ∧ L = [(x, B 43 (cT t Ad cd Ah ch Al cl)), (y, B 45 [.int .i64 k, .int .i64 b]), (b1, B 59 (cF4 t Ad cd Ah ch Al cl k b n ph))]) ?_ ?_
  · refine d_begin_s ((show List.Sublist [(b1, B 59 (cF4 t Ad cd Ah ch Al cl k b n ph))] _ from (by first | exact SubL.out | repeat (first | exact List.Sublist.refl _ | exact List.nil_sublist _ | refine .cons_cons _ ?_ | refine .cons _ ?_ | refine List.Sublist.append (List.Sublist.refl _) ?_ | exact List.sublist_append_left _ _ | refine List.Sublist.trans ?_ (List.sublist_append_right _ _))))) [] mixed ?_
    refine d_tk0 0 (np_then np_ret) rfl (by kernel_rfl) (by kernel_rfl) (by kernel_rfl) (by kernel_rfl) (.inl (by first | exact SubL.out | repeat (first | exact List.Sublist.refl _ | exact List.nil_sublist _ | refine .cons_cons _ ?_ | refine .cons _ ?_ | refine List.Sublist.append (List.Sublist.refl _) ?_ | exact List.sublist_append_left _ _ | refine List.Sublist.trans ?_ (List.sublist_append_right _ _)))) ?_
    refine x_fa rfl (by (conv => lhs; whnf); first | done | rfl) ?_
    refine w_nil ⟨rfl, rfl, ?_⟩
    refine d_tk 1 (np_then np_ret) rfl (by kernel_rfl) (by kernel_rfl) (by kernel_rfl) (by kernel_rfl) (by kernel_rfl) (by first | exact SubL.out | repeat (first | exact List.Sublist.refl _ | exact List.nil_sublist _ | refine .cons_cons _ ?_ | refine .cons _ ?_ | refine List.Sublist.append (List.Sublist.refl _) ?_ | exact List.sublist_append_left _ _ | refine List.Sublist.trans ?_ (List.sublist_append_right _ _))) ?_
    refine x_ldao rfl (by (conv => lhs; whnf); first | done | rfl) (by first | exact HasC.out | exact PutC.out | repeat (first | exact .here | apply Has.there | apply Put.there | apply Has.app | apply Put.app)) rfl ?_
    refine w_nil ⟨rfl, rfl, ?_⟩
    refine d_tk0 2 (np_then np_ret) rfl (by kernel_rfl) (by kernel_rfl) (by kernel_rfl) (by kernel_rfl) (.inl (by first | exact SubL.out | repeat (first | exact List.Sublist.refl _ | exact List.nil_sublist _ | refine .cons_cons _ ?_ | refine .cons _ ?_ | refine List.Sublist.append (List.Sublist.refl _) ?_ | exact List.sublist_append_left _ _ | refine List.Sublist.trans ?_ (List.sublist_append_right _ _)))) ?_
    refine x_fa rfl (by (conv => lhs; whnf); first | done | rfl) ?_
    refine w_nil ⟨rfl, rfl, ?_⟩
    refine d_tk 3 (np_then np_ret) rfl (by kernel_rfl) (by kernel_rfl) (by kernel_rfl) (by kernel_rfl) (by kernel_rfl) (by first | exact SubL.out | repeat (first | exact List.Sublist.refl _ | exact List.nil_sublist _ | refine .cons_cons _ ?_ | refine .cons _ ?_ | refine List.Sublist.append (List.Sublist.refl _) ?_ | exact List.sublist_append_left _ _ | refine List.Sublist.trans ?_ (List.sublist_append_right _ _))) ?_
    refine x_ldao rfl (by (conv => lhs; whnf); first | done | rfl) (by first | exact HasC.out | exact PutC.out | repeat (first | exact .here | apply Has.there | apply Put.there | apply Has.app | apply Put.app)) rfl ?_
    refine w_nil ⟨rfl, rfl, ?_⟩
    refine d_tk0 4 (np_then np_ret) rfl (by kernel_rfl) (by kernel_rfl) (by kernel_rfl) (by kernel_rfl) (.inl (by first | exact SubL.out | repeat (first | exact List.Sublist.refl _ | exact List.nil_sublist _ | refine .cons_cons _ ?_ | refine .cons _ ?_ | refine List.Sublist.append (List.Sublist.refl _) ?_ | exact List.sublist_append_left _ _ | refine List.Sublist.trans ?_ (List.sublist_append_right _ _)))) ?_
    refine x_fa rfl (by (conv => lhs; whnf); first | done | rfl) ?_
    refine w_nil ⟨rfl, rfl, ?_⟩
    refine d_tk 5 (np_then np_ret) rfl (by kernel_rfl) (by kernel_rfl) (by kernel_rfl) (by kernel_rfl) (by kernel_rfl) (by first | exact SubL.out | repeat (first | exact List.Sublist.refl _ | exact List.nil_sublist _ | refine .cons_cons _ ?_ | refine .cons _ ?_ | refine List.Sublist.append (List.Sublist.refl _) ?_ | exact List.sublist_append_left _ _ | refine List.Sublist.trans ?_ (List.sublist_append_right _ _))) ?_
    refine x_ldo rfl (by (conv => lhs; whnf); first | done | rfl) (by first | exact HasC.out | exact PutC.out | repeat (first | exact .here | apply Has.there | apply Put.there | apply Has.app | apply Put.app)) (by (conv => lhs; whnf); first | done | rfl) ?_
    refine w_nil ⟨rfl, rfl, ?_⟩
    refine d_tk0 6 (np_then np_ret) rfl (by kernel_rfl) (by kernel_rfl) (by kernel_rfl) (by kernel_rfl) (.inl (by first | exact SubL.out | repeat (first | exact List.Sublist.refl _ | exact List.nil_sublist _ | refine .cons_cons _ ?_ | refine .cons _ ?_ | refine List.Sublist.append (List.Sublist.refl _) ?_ | exact List.sublist_append_left _ _ | refine List.Sublist.trans ?_ (List.sublist_append_right _ _)))) ?_
    refine x_fa rfl (by (conv => lhs; whnf); first | done | rfl) ?_
    refine w_nil ⟨rfl, rfl, ?_⟩
    refine d_tk 7 (np_then np_ret) rfl (by kernel_rfl) (by kernel_rfl) (by kernel_rfl) (by kernel_rfl) (by kernel_rfl) (by first | exact SubL.out | repeat (first | exact List.Sublist.refl _ | exact List.nil_sublist _ | refine .cons_cons _ ?_ | refine .cons _ ?_ | refine List.Sublist.append (List.Sublist.refl _) ?_ | exact List.sublist_append_left _ _ | refine List.Sublist.trans ?_ (List.sublist_append_right _ _))) ?_
    refine x_ldo rfl (by (conv => lhs; whnf); first | done | rfl) (by first | exact HasC.out | exact PutC.out | repeat (first | exact .here | apply Has.there | apply Put.there | apply Has.app | apply Put.app)) (by (conv => lhs; whnf); first | done | rfl) ?_
    refine w_nil ⟨rfl, rfl, ?_⟩
    refine d_two 8 9 rfl rfl (by kernel_rfl) ?_ ?_
    · refine x_al rfl ?_
      intro b3
      refine w_nil ⟨rfl, (.inl (by first | exact SubL.out | repeat (first | exact List.Sublist.refl _ | exact List.nil_sublist _ | refine .cons_cons _ ?_ | refine .cons _ ?_ | refine List.Sublist.append (List.Sublist.refl _) ?_ | exact List.sublist_append_left _ _ | refine List.Sublist.trans ?_ (List.sublist_append_right _ _)))), ?_⟩
      refine d_one 9 rfl (by kernel_rfl) ?_
      refine x_al rfl ?_
      intro b4
      refine w_nil ⟨rfl, (.inl (by first | exact SubL.out | repeat (first | exact List.Sublist.refl _ | exact List.nil_sublist _ | refine .cons_cons _ ?_ | refine .cons _ ?_ | refine List.Sublist.append (List.Sublist.refl _) ?_ | exact List.sublist_append_left _ _ | refine List.Sublist.trans ?_ (List.sublist_append_right _ _)))), ?_⟩
      refine d_one 10 rfl (by kernel_rfl) ?_
      refine x_stw rfl (by (conv => lhs; whnf); first | done | rfl) (by (conv => lhs; whnf); first | done | rfl) rfl rfl (by first | exact HasC.out | exact PutC.out | repeat (first | exact .here | apply Has.there | apply Put.there | apply Has.app | apply Put.app)) rfl ?_
      refine w_nil ⟨rfl, (.inl (by first | exact SubL.out | repeat (first | exact List.Sublist.refl _ | exact List.nil_sublist _ | refine .cons_cons _ ?_ | refine .cons _ ?_ | refine List.Sublist.append (List.Sublist.refl _) ?_ | exact List.sublist_append_left _ _ | refine List.Sublist.trans ?_ (List.sublist_append_right _ _)))), ?_⟩
      refine d_one 11 rfl (by kernel_rfl) ?_
      refine x_stw rfl (by (conv => lhs; whnf); first | done | rfl) (by (conv => lhs; whnf); first | done | rfl) rfl rfl (by first | exact HasC.out | exact PutC.out | repeat (first | exact .here | apply Has.there | apply Put.there | apply Has.app | apply Put.app)) rfl ?_
      refine w_nil ⟨rfl, (.inl (by first | exact SubL.out | repeat (first | exact List.Sublist.refl _ | exact List.nil_sublist _ | refine .cons_cons _ ?_ | refine .cons _ ?_ | refine List.Sublist.append (List.Sublist.refl _) ?_ | exact List.sublist_append_left _ _ | refine List.Sublist.trans ?_ (List.sublist_append_right _ _)))), ?_⟩
      refine d_tk0 12 (np_then np_ret) rfl (by kernel_rfl) (by kernel_rfl) (by kernel_rfl) (by kernel_rfl) (.inl (by first | exact SubL.out | repeat (first | exact List.Sublist.refl _ | exact List.nil_sublist _ | refine .cons_cons _ ?_ | refine .cons _ ?_ | refine List.Sublist.append (List.Sublist.refl _) ?_ | exact List.sublist_append_left _ _ | refine List.Sublist.trans ?_ (List.sublist_append_right _ _)))) ?_
      refine w_asg rfl (by (conv => lhs; whnf); first | done | rfl) ?_
      refine w_nil ⟨rfl, rfl, ?_⟩
      refine d_tk0 13 (np_then np_ret) rfl (by kernel_rfl) (by kernel_rfl) (by kernel_rfl) (by kernel_rfl) (.inl (by first | exact SubL.out | repeat (first | exact List.Sublist.refl _ | exact List.nil_sublist _ | refine .cons_cons _ ?_ | refine .cons _ ?_ | refine List.Sublist.append (List.Sublist.refl _) ?_ | exact List.sublist_append_left _ _ | refine List.Sublist.trans ?_ (List.sublist_append_right _ _)))) ?_
      refine w_asg rfl (by (conv => lhs; whnf); first | done | rfl) ?_
      refine w_nil ⟨rfl, rfl, ?_⟩
      refine d_done (by kernel_rfl) ?_
      refine tq_n ?_
      exact ⟨(by first | ((repeat (first | with_reducible exact Ag.refl | with_reducible exact Ag.ov | (with_reducible refine Ag.upd ?_ ?_; exact rfl) | with_reducible refine Ag.putn ?_ | (with_reducible refine Ag.ovs ?_ ?_; exact rfl))); done) | (repeat (first | exact Ag.refl | exact Ag.ov | (refine Ag.upd ?_ ?_; exact rfl) | refine Ag.putn ?_ | (refine Ag.ovs ?_ ?_; exact rfl)))), [(3, _), (4, _), (5, _), (6, _)], _, (by first | (refine ⟨_, List.Perm.refl _, ?_⟩; ((first | exact SubL.out | repeat (first | exact List.Sublist.refl _ | exact List.nil_sublist _ | refine .cons_cons _ ?_ | refine .cons _ ?_ | refine List.Sublist.append (List.Sublist.refl _) ?_ | exact List.sublist_append_left _ _ | refine List.Sublist.trans ?_ (List.sublist_append_right _ _)))); done) | (refine ⟨_, List.Perm.swap _ _ _, ?_⟩; ((first | exact SubL.out | repeat (first | exact List.Sublist.refl _ | exact List.nil_sublist _ | refine .cons_cons _ ?_ | refine .cons _ ?_ | refine List.Sublist.append (List.Sublist.refl _) ?_ | exact List.sublist_append_left _ _ | refine List.Sublist.trans ?_ (List.sublist_append_right _ _)))); done)), (by repeat (first | exact .nil | refine .cons rfl ?_)), ⟨_, _, rfl, rfl⟩⟩
    · refine x_al rfl ?_
      intro b4
      refine w_nil ⟨rfl, (.inl (by first | exact SubL.out | repeat (first | exact List.Sublist.refl _ | exact List.nil_sublist _ | refine .cons_cons _ ?_ | refine .cons _ ?_ | refine List.Sublist.append (List.Sublist.refl _) ?_ | exact List.sublist_append_left _ _ | refine List.Sublist.trans ?_ (List.sublist_append_right _ _)))), ?_⟩
      refine d_one 8 rfl (by kernel_rfl) ?_
      refine x_al rfl ?_
      intro b3
      refine w_nil ⟨rfl, (.inl (by first | exact SubL.out | repeat (first | exact List.Sublist.refl _ | exact List.nil_sublist _ | refine .cons_cons _ ?_ | refine .cons _ ?_ | refine List.Sublist.append (List.Sublist.refl _) ?_ | exact List.sublist_append_left _ _ | refine List.Sublist.trans ?_ (List.sublist_append_right _ _)))), ?_⟩
      refine d_one 10 rfl (by kernel_rfl) ?_
      refine x_stw rfl (by (conv => lhs; whnf); first | done | rfl) (by (conv => lhs; whnf); first | done | rfl) rfl rfl (by first | exact HasC.out | exact PutC.out | repeat (first | exact .here | apply Has.there | apply Put.there | apply Has.app | apply Put.app)) rfl ?_
      refine w_nil ⟨rfl, (.inl (by first | exact SubL.out | repeat (first | exact List.Sublist.refl _ | exact List.nil_sublist _ | refine .cons_cons _ ?_ | refine .cons _ ?_ | refine List.Sublist.append (List.Sublist.refl _) ?_ | exact List.sublist_append_left _ _ | refine List.Sublist.trans ?_ (List.sublist_append_right _ _)))), ?_⟩
      refine d_one 11 rfl (by kernel_rfl) ?_
      refine x_stw rfl (by (conv => lhs; whnf); first | done | rfl) (by (conv => lhs; whnf); first | done | rfl) rfl rfl (by first | exact HasC.out | exact PutC.out | repeat (first | exact .here | apply Has.there | apply Put.there | apply Has.app | apply Put.app)) rfl ?_
      refine w_nil ⟨rfl, (.inl (by first | exact SubL.out | repeat (first | exact List.Sublist.refl _ | exact List.nil_sublist _ | refine .cons_cons _ ?_ | refine .cons _ ?_ | refine List.Sublist.append (List.Sublist.refl _) ?_ | exact List.sublist_append_left _ _ | refine List.Sublist.trans ?_ (List.sublist_append_right _ _)))), ?_⟩
      refine d_tk0 12 (np_then np_ret) rfl (by kernel_rfl) (by kernel_rfl) (by kernel_rfl) (by kernel_rfl) (.inl (by first | exact SubL.out | repeat (first | exact List.Sublist.refl _ | exact List.nil_sublist _ | refine .cons_cons _ ?_ | refine .cons _ ?_ | refine List.Sublist.append (List.Sublist.refl _) ?_ | exact List.sublist_append_left _ _ | refine List.Sublist.trans ?_ (List.sublist_append_right _ _)))) ?_
      refine w_asg rfl (by (conv => lhs; whnf); first | done | rfl) ?_
      refine w_nil ⟨rfl, rfl, ?_⟩
      refine d_tk0 13 (np_then np_ret) rfl (by kernel_rfl) (by kernel_rfl) (by kernel_rfl) (by kernel_rfl) (.inl (by first | exact SubL.out | repeat (first | exact List.Sublist.refl _ | exact List.nil_sublist _ | refine .cons_cons _ ?_ | refine .cons _ ?_ | refine List.Sublist.append (List.Sublist.refl _) ?_ | exact List.sublist_append_left _ _ | refine List.Sublist.trans ?_ (List.sublist_append_right _ _)))) ?_
      refine w_asg rfl (by (conv => lhs; whnf); first | done | rfl) ?_
      refine w_nil ⟨rfl, rfl, ?_⟩
      refine d_done (by kernel_rfl) ?_
      refine tq_n ?_
      exact ⟨(by first | ((repeat (first | with_reducible exact Ag.refl | with_reducible exact Ag.ov | (with_reducible refine Ag.upd ?_ ?_; exact rfl) | with_reducible refine Ag.putn ?_ | (with_reducible refine Ag.ovs ?_ ?_; exact rfl))); done) | (repeat (first | exact Ag.refl | exact Ag.ov | (refine Ag.upd ?_ ?_; exact rfl) | refine Ag.putn ?_ | (refine Ag.ovs ?_ ?_; exact rfl)))), [(3, _), (4, _), (5, _), (6, _)], _, (by first | (refine ⟨_, List.Perm.refl _, ?_⟩; ((first | exact SubL.out | repeat (first | exact List.Sublist.refl _ | exact List.nil_sublist _ | refine .cons_cons _ ?_ | refine .cons _ ?_ | refine List.Sublist.append (List.Sublist.refl _) ?_ | exact List.sublist_append_left _ _ | refine List.Sublist.trans ?_ (List.sublist_append_right _ _)))); done) | (refine ⟨_, List.Perm.swap _ _ _, ?_⟩; ((first | exact SubL.out | repeat (first | exact List.Sublist.refl _ | exact List.nil_sublist _ | refine .cons_cons _ ?_ | refine .cons _ ?_ | refine List.Sublist.append (List.Sublist.refl _) ?_ | exact List.sublist_append_left _ _ | refine List.Sublist.trans ?_ (List.sublist_append_right _ _)))); done)), (by repeat (first | exact .nil | refine .cons rfl ?_)), ⟨_, _, rfl, rfl⟩⟩
  · rintro sM LM gM ⟨b3, b4, rfl, rfl⟩
    refine c_seq ?_
    refine c_seq ?_
    refine c_region ?_
    refine x_ldao rfl (by (conv => lhs; whnf); first | done | rfl) (by first | exact HasC.out | exact PutC.out | repeat (first | exact .here | apply Has.there | apply Put.there | apply Has.app | apply Put.app)) rfl ?_
    refine x_callp (by decide) (small_g (hT.sub (List.nil_sublist _))) rfl rfl rfl ?_
    refine w_notd rfl (by (conv => lhs; whnf); first | done | rfl) ?_
    refine w_nil ?_
    refine tq_n ?_
    refine c_cond_d (by (conv => lhs; whnf); first | done | rfl) (fun hc36 => ?_) (fun hc36 => ?_)
    · refine c_seq ?_
      refine c_region ?_
      refine w_asg rfl (by (conv => lhs; whnf); first | done | rfl) ?_
      refine w_nil ?_
      refine tq_n ?_
      refine c_ret ?_
      refine tq_r ?_
      exact rq_r (ra_t (by (conv => lhs; whnf); first | done | rfl) .nil) (List.nil_sublist _) (⟨rfl, rfl⟩)
    · refine c_skip ?_
      refine tq_n ?_
      refine c_seq ?_
      refine c_region ?_
      refine w_asg rfl (by (conv => lhs; whnf); first | done | rfl) ?_
      refine w_nil ?_
      refine tq_n ?_
      refine c_mid_ov [38, 39, 40, 41, 37, 42, 43, 8, 9, 44, 45, 46, 47, 48, 49, 50, 51, 7] (fun s L => s = [(7, .bool true)] ∧ L = [(b3, B 43 (cT t Ad cd Ah ch Al cl)), (b4, B 45 [.int .i64 k, .int .i64 b]), (b1, B 59 (cF4 t Ad cd Ah ch Al cl k b n ph))]) ?_ ?_
      · refine c_seq ?_
        refine c_region ?_
        refine x_ldao rfl (by (conv => lhs; whnf); first | done | rfl) (by first | exact HasC.out | exact PutC.out | repeat (first | exact .here | apply Has.there | apply Put.there | apply Has.app | apply Put.app)) rfl ?_
        refine x_ldao rfl (by (conv => lhs; whnf); first | done | rfl) (by first | exact HasC.out | exact PutC.out | repeat (first | exact .here | apply Has.there | apply Put.there | apply Has.app | apply Put.app)) rfl ?_
        refine w_mov rfl (by (conv => lhs; whnf); first | done | rfl) ?_
        refine x_call (open_g (hT.sub (List.nil_sublist _))) rfl rfl rfl ?_
        rintro _ _ ⟨S20, rfl, hQ⟩
        obtain ⟨q0, q1, q2, q3, q4, q5, q6, q7, q8, qe, rfl, hqo, hqe, _⟩ := OpR_form opn_err hQ
        refine w_mov rfl (by (conv => lhs; whnf); first | done | rfl) ?_
        refine w_ext rfl (by (conv => lhs; whnf); first | done | rfl) (by (conv => lhs; whnf); first | done | rfl) ?_
        refine w_ext rfl (by (conv => lhs; whnf); first | done | rfl) (by (conv => lhs; whnf); first | done | rfl) ?_
        refine x_al rfl ?_
        intro b8
        refine x_stw rfl (by (conv => lhs; whnf); first | done | rfl) (by (conv => lhs; whnf); first | done | rfl) (rfl) (hqo) (by first | exact HasC.out | exact PutC.out | repeat (first | exact .here | apply Has.there | apply Put.there | apply Has.app | apply Put.app)) (by exact rfl) ?_
        refine w_asg rfl (by (conv => lhs; whnf); first | done | rfl) ?_
        refine w_nil ?_
        refine tq_n ?_
        refine c_seq ?_
        refine c_region ?_
        refine w_mov rfl (by (conv => lhs; whnf); first | done | rfl) ?_
        refine w_eql rfl (by (conv => lhs; whnf); first | done | rfl) (by (conv => lhs; whnf); first | done | rfl) ?_
        refine w_nil ?_
        refine tq_n ?_
        refine c_cond_d (by (conv => lhs; whnf); first | done | rfl) (fun hc45 => ?_) (fun hc45 => ?_)
        · obtain ⟨tx, hst, hO⟩ := hqe hc45
          refine c_region_j [46, 47, 48, 49, 50, 51, 7] 7 (.bool (decide (True))) ?_ (fun g9 => ?_)
          · all_goals (refine w_mov rfl (by (conv => lhs; whnf); first | done | rfl) ?_)
            all_goals (refine w_mov rfl (by (conv => lhs; whnf); first | done | rfl) ?_)
            all_goals (first | refine w_lit true rfl rfl rfl ?_ | refine w_lit false rfl rfl rfl ?_ | refine w_cases_od rfl rfl rfl (fun hg => ?_) (fun hg => ?_) | refine w_cases_o rfl rfl rfl (fun hg => ?_) (fun hg => ?_) | skip)
            all_goals (first | refine w_skip rfl ?_ | (refine x_ldao rfl (by (conv => lhs; whnf); first | done | rfl) (by first | exact HasC.out | exact PutC.out | repeat (first | exact .here | apply Has.there | apply Put.there | apply Has.app | apply Put.app)) rfl ?_))
            all_goals (first | refine w_skip rfl ?_ | (refine x_callp (by decide) (check_known_g (hO.use (by first | exact SubL.out | repeat (first | exact List.Sublist.refl _ | exact List.nil_sublist _ | refine .cons_cons _ ?_ | refine .cons _ ?_ | refine List.Sublist.append (List.Sublist.refl _) ?_ | exact List.sublist_append_left _ _ | refine List.Sublist.trans ?_ (List.sublist_append_right _ _)))) (may_open hst)) rfl rfl rfl ?_))
            all_goals (first | refine w_skip rfl ?_ | (refine w_eql rfl (by (conv => lhs; whnf); first | done | rfl) (by (conv => lhs; whnf); first | done | rfl) ?_))
            all_goals (first | refine w_pick_t rfl rfl (by (conv => lhs; whnf); first | done | rfl) ?_ | refine w_pick_f rfl rfl (by (conv => lhs; whnf); first | done | rfl) ?_)
            all_goals (refine w_asg rfl (by (conv => lhs; whnf); first | done | rfl) ?_)
            all_goals (refine w_nil ?_)
            all_goals (refine jn (by first | exact (Ag.upd rfl (Ag.upd rfl (Ag.upd rfl (Ag.upd rfl (Ag.upd rfl (Ag.upd rfl (Ag.upd rfl Ag.refl))))))) | exact (by first | ((repeat (first | with_reducible exact Ag.refl | with_reducible exact Ag.ov | (with_reducible refine Ag.upd ?_ ?_; exact rfl) | with_reducible refine Ag.putn ?_ | (with_reducible refine Ag.ovs ?_ ?_; exact rfl))); done) | (repeat (first | exact Ag.refl | exact Ag.ov | (refine Ag.upd ?_ ?_; exact rfl) | refine Ag.putn ?_ | (refine Ag.ovs ?_ ?_; exact rfl))))) (by (conv => lhs; whnf); first | done | rfl) ?_)
            all_goals (exact congrArg Value.bool (by first | rfl | decide))
          refine tq_n ?_
          exact ⟨(by first | ((repeat (first | with_reducible exact Ag.refl | with_reducible exact Ag.ov | (with_reducible refine Ag.upd ?_ ?_; exact rfl) | with_reducible refine Ag.putn ?_ | (with_reducible refine Ag.ovs ?_ ?_; exact rfl))); done) | (repeat (first | exact Ag.refl | exact Ag.ov | (refine Ag.upd ?_ ?_; exact rfl) | refine Ag.putn ?_ | (refine Ag.ovs ?_ ?_; exact rfl)))), [(7, .bool true)], _, (by first | exact SubL.out | repeat (first | exact List.Sublist.refl _ | exact List.nil_sublist _ | refine .cons_cons _ ?_ | refine .cons _ ?_ | refine List.Sublist.append (List.Sublist.refl _) ?_ | exact List.sublist_append_left _ _ | refine List.Sublist.trans ?_ (List.sublist_append_right _ _))), (by repeat (first | exact .nil | refine .cons rfl ?_)), ⟨rfl, rfl⟩⟩
        · refine c_skip ?_
          refine tq_n ?_
          exact ⟨(by first | ((repeat (first | with_reducible exact Ag.refl | with_reducible exact Ag.ov | (with_reducible refine Ag.upd ?_ ?_; exact rfl) | with_reducible refine Ag.putn ?_ | (with_reducible refine Ag.ovs ?_ ?_; exact rfl))); done) | (repeat (first | exact Ag.refl | exact Ag.ov | (refine Ag.upd ?_ ?_; exact rfl) | refine Ag.putn ?_ | (refine Ag.ovs ?_ ?_; exact rfl)))), [(7, .bool true)], _, (by first | exact SubL.out | repeat (first | exact List.Sublist.refl _ | exact List.nil_sublist _ | refine .cons_cons _ ?_ | refine .cons _ ?_ | refine List.Sublist.append (List.Sublist.refl _) ?_ | exact List.sublist_append_left _ _ | refine List.Sublist.trans ?_ (List.sublist_append_right _ _))), (by repeat (first | exact .nil | refine .cons rfl ?_)), ⟨rfl, rfl⟩⟩
      · rintro sM LM gM ⟨rfl, rfl⟩
        refine c_mid_ov [53, 54, 55, 56, 52, 57, 58, 59, 10, 11, 12, 60, 61, 62, 63, 64, 65, 66, 67, 7] (fun s L => s = [(7, .bool true)] ∧ L = [(b3, B 43 (cT t Ad cd Ah ch Al cl)), (b4, B 45 [.int .i64 k, .int .i64 b]), (b1, B 59 (cF4 t Ad cd Ah ch Al cl k b n ph))]) ?_ ?_
        · refine c_seq ?_
          refine c_region ?_
          refine x_ldao rfl (by (conv => lhs; whnf); first | done | rfl) (by first | exact HasC.out | exact PutC.out | repeat (first | exact .here | apply Has.there | apply Put.there | apply Has.app | apply Put.app)) rfl ?_
          refine x_ldao rfl (by (conv => lhs; whnf); first | done | rfl) (by first | exact HasC.out | exact PutC.out | repeat (first | exact .here | apply Has.there | apply Put.there | apply Has.app | apply Put.app)) rfl ?_
          refine w_mov rfl (by (conv => lhs; whnf); first | done | rfl) ?_
          refine x_call (put_g (hT.sub (List.nil_sublist _))) rfl rfl rfl ?_
          rintro _ _ ⟨S23, rfl, hP⟩
          obtain ⟨p0, p1, p2, p3, p4, p5, p6, p7, p8, pa1, pb1, pe, rfl, hpo, hpe, _⟩ := PutR_form put_err hP
          refine w_mov rfl (by (conv => lhs; whnf); first | done | rfl) ?_
          refine w_ext rfl (by (conv => lhs; whnf); first | done | rfl) (by (conv => lhs; whnf); first | done | rfl) ?_
          refine w_ext rfl (by (conv => lhs; whnf); first | done | rfl) (by (conv => lhs; whnf); first | done | rfl) ?_
          refine w_ext rfl (by (conv => lhs; whnf); first | done | rfl) (by (conv => lhs; whnf); first | done | rfl) ?_
          refine x_al rfl ?_
          intro b10
          refine x_al rfl ?_
          intro b11
          refine x_stw rfl (by (conv => lhs; whnf); first | done | rfl) (by (conv => lhs; whnf); first | done | rfl) (rfl) (hpo) (by first | exact HasC.out | exact PutC.out | repeat (first | exact .here | apply Has.there | apply Put.there | apply Has.app | apply Put.app)) (by exact rfl) ?_
          refine x_stw rfl (by (conv => lhs; whnf); first | done | rfl) (by (conv => lhs; whnf); first | done | rfl) rfl rfl (by first | exact HasC.out | exact PutC.out | repeat (first | exact .here | apply Has.there | apply Put.there | apply Has.app | apply Put.app)) rfl ?_
          refine w_asg rfl (by (conv => lhs; whnf); first | done | rfl) ?_
          refine w_nil ?_
          refine tq_n ?_
          refine c_seq ?_
          refine c_region ?_
          refine w_mov rfl (by (conv => lhs; whnf); first | done | rfl) ?_
          refine w_eql rfl (by (conv => lhs; whnf); first | done | rfl) (by (conv => lhs; whnf); first | done | rfl) ?_
          refine w_nil ?_
          refine tq_n ?_
          refine c_cond_d (by (conv => lhs; whnf); first | done | rfl) (fun hc61 => ?_) (fun hc61 => ?_)
          · obtain ⟨tx, hst, hO⟩ := hpe hc61
            refine c_region_j [62, 63, 64, 65, 66, 67, 7] 7 (.bool (decide (True))) ?_ (fun g12 => ?_)
            · all_goals (refine w_mov rfl (by (conv => lhs; whnf); first | done | rfl) ?_)
              all_goals (refine w_mov rfl (by (conv => lhs; whnf); first | done | rfl) ?_)
              all_goals (first | refine w_lit true rfl rfl rfl ?_ | refine w_lit false rfl rfl rfl ?_ | refine w_cases_od rfl rfl rfl (fun hg => ?_) (fun hg => ?_) | refine w_cases_o rfl rfl rfl (fun hg => ?_) (fun hg => ?_) | skip)
              all_goals (first | refine w_skip rfl ?_ | (refine x_ldao rfl (by (conv => lhs; whnf); first | done | rfl) (by first | exact HasC.out | exact PutC.out | repeat (first | exact .here | apply Has.there | apply Put.there | apply Has.app | apply Put.app)) rfl ?_))
              all_goals (first | refine w_skip rfl ?_ | (refine x_callp (by decide) (check_known_g (hO.use (by first | exact SubL.out | repeat (first | exact List.Sublist.refl _ | exact List.nil_sublist _ | refine .cons_cons _ ?_ | refine .cons _ ?_ | refine List.Sublist.append (List.Sublist.refl _) ?_ | exact List.sublist_append_left _ _ | refine List.Sublist.trans ?_ (List.sublist_append_right _ _)))) (may_put hst)) rfl rfl rfl ?_))
              all_goals (first | refine w_skip rfl ?_ | (refine w_eql rfl (by (conv => lhs; whnf); first | done | rfl) (by (conv => lhs; whnf); first | done | rfl) ?_))
              all_goals (first | refine w_pick_t rfl rfl (by (conv => lhs; whnf); first | done | rfl) ?_ | refine w_pick_f rfl rfl (by (conv => lhs; whnf); first | done | rfl) ?_)
              all_goals (refine w_asg rfl (by (conv => lhs; whnf); first | done | rfl) ?_)
              all_goals (refine w_nil ?_)
              all_goals (refine jn (by first | exact (Ag.upd rfl (Ag.upd rfl (Ag.upd rfl (Ag.upd rfl (Ag.upd rfl (Ag.upd rfl (Ag.upd rfl Ag.refl))))))) | exact (by first | ((repeat (first | with_reducible exact Ag.refl | with_reducible exact Ag.ov | (with_reducible refine Ag.upd ?_ ?_; exact rfl) | with_reducible refine Ag.putn ?_ | (with_reducible refine Ag.ovs ?_ ?_; exact rfl))); done) | (repeat (first | exact Ag.refl | exact Ag.ov | (refine Ag.upd ?_ ?_; exact rfl) | refine Ag.putn ?_ | (refine Ag.ovs ?_ ?_; exact rfl))))) (by (conv => lhs; whnf); first | done | rfl) ?_)
              all_goals (exact congrArg Value.bool (by first | rfl | decide))
            refine tq_n ?_
            exact ⟨(by first | ((repeat (first | with_reducible exact Ag.refl | with_reducible exact Ag.ov | (with_reducible refine Ag.upd ?_ ?_; exact rfl) | with_reducible refine Ag.putn ?_ | (with_reducible refine Ag.ovs ?_ ?_; exact rfl))); done) | (repeat (first | exact Ag.refl | exact Ag.ov | (refine Ag.upd ?_ ?_; exact rfl) | refine Ag.putn ?_ | (refine Ag.ovs ?_ ?_; exact rfl)))), [(7, .bool true)], _, (by first | exact SubL.out | repeat (first | exact List.Sublist.refl _ | exact List.nil_sublist _ | refine .cons_cons _ ?_ | refine .cons _ ?_ | refine List.Sublist.append (List.Sublist.refl _) ?_ | exact List.sublist_append_left _ _ | refine List.Sublist.trans ?_ (List.sublist_append_right _ _))), (by repeat (first | exact .nil | refine .cons rfl ?_)), ⟨rfl, rfl⟩⟩
          · refine c_skip ?_
            refine tq_n ?_
            exact ⟨(by first | ((repeat (first | with_reducible exact Ag.refl | with_reducible exact Ag.ov | (with_reducible refine Ag.upd ?_ ?_; exact rfl) | with_reducible refine Ag.putn ?_ | (with_reducible refine Ag.ovs ?_ ?_; exact rfl))); done) | (repeat (first | exact Ag.refl | exact Ag.ov | (refine Ag.upd ?_ ?_; exact rfl) | refine Ag.putn ?_ | (refine Ag.ovs ?_ ?_; exact rfl)))), [(7, .bool true)], _, (by first | exact SubL.out | repeat (first | exact List.Sublist.refl _ | exact List.nil_sublist _ | refine .cons_cons _ ?_ | refine .cons _ ?_ | refine List.Sublist.append (List.Sublist.refl _) ?_ | exact List.sublist_append_left _ _ | refine List.Sublist.trans ?_ (List.sublist_append_right _ _))), (by repeat (first | exact .nil | refine .cons rfl ?_)), ⟨rfl, rfl⟩⟩
        · rintro sM LM gM ⟨rfl, rfl⟩
          refine c_mid_ov [69, 70, 71, 68, 72, 73, 13, 14, 74, 75, 76, 77, 78, 79, 80, 81, 7] (fun s L => s = [(7, .bool true)] ∧ L = [(b3, B 43 (cT t Ad cd Ah ch Al cl)), (b4, B 45 [.int .i64 k, .int .i64 b]), (b1, B 59 (cF4 t Ad cd Ah ch Al cl k b n ph))]) ?_ ?_
          · refine c_seq ?_
            refine c_region ?_
            refine x_ldao rfl (by (conv => lhs; whnf); first | done | rfl) (by first | exact HasC.out | exact PutC.out | repeat (first | exact .here | apply Has.there | apply Put.there | apply Has.app | apply Put.app)) rfl ?_
            refine x_ldao rfl (by (conv => lhs; whnf); first | done | rfl) (by first | exact HasC.out | exact PutC.out | repeat (first | exact .here | apply Has.there | apply Put.there | apply Has.app | apply Put.app)) rfl ?_
            refine x_call (skip_g (hT.sub (List.nil_sublist _))) rfl rfl rfl ?_
            rintro _ _ ⟨S25, rfl, hR⟩
            obtain ⟨r0, r1, r2, r3, r4, r5, r6, r7, r8, re, rfl, hro, hre, _⟩ := OpR_form skip_err hR
            refine w_mov rfl (by (conv => lhs; whnf); first | done | rfl) ?_
            refine w_ext rfl (by (conv => lhs; whnf); first | done | rfl) (by (conv => lhs; whnf); first | done | rfl) ?_
            refine w_ext rfl (by (conv => lhs; whnf); first | done | rfl) (by (conv => lhs; whnf); first | done | rfl) ?_
            refine x_al rfl ?_
            intro b13
            refine x_stw rfl (by (conv => lhs; whnf); first | done | rfl) (by (conv => lhs; whnf); first | done | rfl) (rfl) (hro) (by first | exact HasC.out | exact PutC.out | repeat (first | exact .here | apply Has.there | apply Put.there | apply Has.app | apply Put.app)) (by exact rfl) ?_
            refine w_asg rfl (by (conv => lhs; whnf); first | done | rfl) ?_
            refine w_nil ?_
            refine tq_n ?_
            refine c_seq ?_
            refine c_region ?_
            refine w_mov rfl (by (conv => lhs; whnf); first | done | rfl) ?_
            refine w_eql rfl (by (conv => lhs; whnf); first | done | rfl) (by (conv => lhs; whnf); first | done | rfl) ?_
            refine w_nil ?_
            refine tq_n ?_
            refine c_cond_d (by (conv => lhs; whnf); first | done | rfl) (fun hc75 => ?_) (fun hc75 => ?_)
            · obtain ⟨tx, hst, hO⟩ := hre hc75
              refine c_region_j [76, 77, 78, 79, 80, 81, 7] 7 (.bool (decide (True))) ?_ (fun g15 => ?_)
              · all_goals (refine w_mov rfl (by (conv => lhs; whnf); first | done | rfl) ?_)
                all_goals (refine w_mov rfl (by (conv => lhs; whnf); first | done | rfl) ?_)
                all_goals (first | refine w_lit true rfl rfl rfl ?_ | refine w_lit false rfl rfl rfl ?_ | refine w_cases_od rfl rfl rfl (fun hg => ?_) (fun hg => ?_) | refine w_cases_o rfl rfl rfl (fun hg => ?_) (fun hg => ?_) | skip)
                all_goals (first | refine w_skip rfl ?_ | (refine x_ldao rfl (by (conv => lhs; whnf); first | done | rfl) (by first | exact HasC.out | exact PutC.out | repeat (first | exact .here | apply Has.there | apply Put.there | apply Has.app | apply Put.app)) rfl ?_))
                all_goals (first | refine w_skip rfl ?_ | (refine x_callp (by decide) (check_known_g (hO.use (by first | exact SubL.out | repeat (first | exact List.Sublist.refl _ | exact List.nil_sublist _ | refine .cons_cons _ ?_ | refine .cons _ ?_ | refine List.Sublist.append (List.Sublist.refl _) ?_ | exact List.sublist_append_left _ _ | refine List.Sublist.trans ?_ (List.sublist_append_right _ _)))) (may_skip hst)) rfl rfl rfl ?_))
                all_goals (first | refine w_skip rfl ?_ | (refine w_eql rfl (by (conv => lhs; whnf); first | done | rfl) (by (conv => lhs; whnf); first | done | rfl) ?_))
                all_goals (first | refine w_pick_t rfl rfl (by (conv => lhs; whnf); first | done | rfl) ?_ | refine w_pick_f rfl rfl (by (conv => lhs; whnf); first | done | rfl) ?_)
                all_goals (refine w_asg rfl (by (conv => lhs; whnf); first | done | rfl) ?_)
                all_goals (refine w_nil ?_)
                all_goals (refine jn (by first | exact (Ag.upd rfl (Ag.upd rfl (Ag.upd rfl (Ag.upd rfl (Ag.upd rfl (Ag.upd rfl (Ag.upd rfl Ag.refl))))))) | exact (by first | ((repeat (first | with_reducible exact Ag.refl | with_reducible exact Ag.ov | (with_reducible refine Ag.upd ?_ ?_; exact rfl) | with_reducible refine Ag.putn ?_ | (with_reducible refine Ag.ovs ?_ ?_; exact rfl))); done) | (repeat (first | exact Ag.refl | exact Ag.ov | (refine Ag.upd ?_ ?_; exact rfl) | refine Ag.putn ?_ | (refine Ag.ovs ?_ ?_; exact rfl))))) (by (conv => lhs; whnf); first | done | rfl) ?_)
                all_goals (exact congrArg Value.bool (by first | rfl | decide))
              refine tq_n ?_
              exact ⟨(by first | ((repeat (first | with_reducible exact Ag.refl | with_reducible exact Ag.ov | (with_reducible refine Ag.upd ?_ ?_; exact rfl) | with_reducible refine Ag.putn ?_ | (with_reducible refine Ag.ovs ?_ ?_; exact rfl))); done) | (repeat (first | exact Ag.refl | exact Ag.ov | (refine Ag.upd ?_ ?_; exact rfl) | refine Ag.putn ?_ | (refine Ag.ovs ?_ ?_; exact rfl)))), [(7, .bool true)], _, (by first | exact SubL.out | repeat (first | exact List.Sublist.refl _ | exact List.nil_sublist _ | refine .cons_cons _ ?_ | refine .cons _ ?_ | refine List.Sublist.append (List.Sublist.refl _) ?_ | exact List.sublist_append_left _ _ | refine List.Sublist.trans ?_ (List.sublist_append_right _ _))), (by repeat (first | exact .nil | refine .cons rfl ?_)), ⟨rfl, rfl⟩⟩
            · refine c_skip ?_
              refine tq_n ?_
              exact ⟨(by first | ((repeat (first | with_reducible exact Ag.refl | with_reducible exact Ag.ov | (with_reducible refine Ag.upd ?_ ?_; exact rfl) | with_reducible refine Ag.putn ?_ | (with_reducible refine Ag.ovs ?_ ?_; exact rfl))); done) | (repeat (first | exact Ag.refl | exact Ag.ov | (refine Ag.upd ?_ ?_; exact rfl) | refine Ag.putn ?_ | (refine Ag.ovs ?_ ?_; exact rfl)))), [(7, .bool true)], _, (by first | exact SubL.out | repeat (first | exact List.Sublist.refl _ | exact List.nil_sublist _ | refine .cons_cons _ ?_ | refine .cons _ ?_ | refine List.Sublist.append (List.Sublist.refl _) ?_ | exact List.sublist_append_left _ _ | refine List.Sublist.trans ?_ (List.sublist_append_right _ _))), (by repeat (first | exact .nil | refine .cons rfl ?_)), ⟨rfl, rfl⟩⟩
          · rintro sM LM gM ⟨rfl, rfl⟩
            refine c_mid_ov [83, 84, 85, 86, 82, 87, 88, 89, 15, 16, 17, 90, 91, 92, 93, 94, 95, 96, 97, 7] (fun s L => s = [(7, .bool true)] ∧ L = [(b3, B 43 (cT t Ad cd Ah ch Al cl)), (b4, B 45 [.int .i64 k, .int .i64 b]), (b1, B 59 (cF4 t Ad cd Ah ch Al cl k b n ph))]) ?_ ?_
            · refine c_seq ?_
              refine c_region ?_
              refine x_ldao rfl (by (conv => lhs; whnf); first | done | rfl) (by first | exact HasC.out | exact PutC.out | repeat (first | exact .here | apply Has.there | apply Put.there | apply Has.app | apply Put.app)) rfl ?_
              refine w_mov rfl (by (conv => lhs; whnf); first | done | rfl) ?_
              refine w_mov rfl (by (conv => lhs; whnf); first | done | rfl) ?_
              refine x_call (folded_g (hT.sub (List.nil_sublist _)) hn) rfl rfl rfl ?_
              rintro _ _ ⟨S31, rfl, hF⟩
              obtain ⟨f0, f1, f2, f3, f4, f5, f6, f7, f8, flv, fe, rfl, hfo, hfl, hfe, _⟩ := FdR_form folded_err hF
              refine w_mov rfl (by (conv => lhs; whnf); first | done | rfl) ?_
              refine w_ext rfl (by (conv => lhs; whnf); first | done | rfl) (by (conv => lhs; whnf); first | done | rfl) ?_
              refine w_ext rfl (by (conv => lhs; whnf); first | done | rfl) (by (conv => lhs; whnf); first | done | rfl) ?_
              refine w_ext rfl (by (conv => lhs; whnf); first | done | rfl) (by (conv => lhs; whnf); first | done | rfl) ?_
              refine x_al rfl ?_
              intro b15
              refine x_stw rfl (by (conv => lhs; whnf); first | done | rfl) (by (conv => lhs; whnf); first | done | rfl) (rfl) (hfo) (by first | exact HasC.out | exact PutC.out | repeat (first | exact .here | apply Has.there | apply Put.there | apply Has.app | apply Put.app)) (by exact rfl) ?_
              refine w_asg rfl (by (conv => lhs; whnf); first | done | rfl) ?_
              refine w_asg rfl (by (conv => lhs; whnf); first | done | rfl) ?_
              refine w_nil ?_
              refine tq_n ?_
              refine c_seq ?_
              refine c_region ?_
              refine w_mov rfl (by (conv => lhs; whnf); first | done | rfl) ?_
              refine w_eql rfl (by (conv => lhs; whnf); first | done | rfl) (by (conv => lhs; whnf); first | done | rfl) ?_
              refine w_nil ?_
              refine tq_n ?_
              refine c_cond_d (by (conv => lhs; whnf); first | done | rfl) (fun hc91 => ?_) (fun hc91 => ?_)
              · obtain ⟨tx, lx, hst, hO, _⟩ := hfe hc91
                refine c_region_j [92, 93, 94, 95, 96, 97, 7] 7 (.bool (decide (True))) ?_ (fun g18 => ?_)
                · all_goals (refine w_mov rfl (by (conv => lhs; whnf); first | done | rfl) ?_)
                  all_goals (refine w_mov rfl (by (conv => lhs; whnf); first | done | rfl) ?_)
                  all_goals (first | refine w_lit true rfl rfl rfl ?_ | refine w_lit false rfl rfl rfl ?_ | refine w_cases_od rfl rfl rfl (fun hg => ?_) (fun hg => ?_) | refine w_cases_o rfl rfl rfl (fun hg => ?_) (fun hg => ?_) | skip)
                  all_goals (first | refine w_skip rfl ?_ | (refine x_ldao rfl (by (conv => lhs; whnf); first | done | rfl) (by first | exact HasC.out | exact PutC.out | repeat (first | exact .here | apply Has.there | apply Put.there | apply Has.app | apply Put.app)) rfl ?_))
                  all_goals (first | refine w_skip rfl ?_ | (refine x_callp (by decide) (check_known_g (hO.use (by first | exact SubL.out | repeat (first | exact List.Sublist.refl _ | exact List.nil_sublist _ | refine .cons_cons _ ?_ | refine .cons _ ?_ | refine List.Sublist.append (List.Sublist.refl _) ?_ | exact List.sublist_append_left _ _ | refine List.Sublist.trans ?_ (List.sublist_append_right _ _)))) (may_folded hst)) rfl rfl rfl ?_))
                  all_goals (first | refine w_skip rfl ?_ | (refine w_eql rfl (by (conv => lhs; whnf); first | done | rfl) (by (conv => lhs; whnf); first | done | rfl) ?_))
                  all_goals (first | refine w_pick_t rfl rfl (by (conv => lhs; whnf); first | done | rfl) ?_ | refine w_pick_f rfl rfl (by (conv => lhs; whnf); first | done | rfl) ?_)
                  all_goals (refine w_asg rfl (by (conv => lhs; whnf); first | done | rfl) ?_)
                  all_goals (refine w_nil ?_)
                  all_goals (refine jn (by first | exact (Ag.upd rfl (Ag.upd rfl (Ag.upd rfl (Ag.upd rfl (Ag.upd rfl (Ag.upd rfl (Ag.upd rfl Ag.refl))))))) | exact (by first | ((repeat (first | with_reducible exact Ag.refl | with_reducible exact Ag.ov | (with_reducible refine Ag.upd ?_ ?_; exact rfl) | with_reducible refine Ag.putn ?_ | (with_reducible refine Ag.ovs ?_ ?_; exact rfl))); done) | (repeat (first | exact Ag.refl | exact Ag.ov | (refine Ag.upd ?_ ?_; exact rfl) | refine Ag.putn ?_ | (refine Ag.ovs ?_ ?_; exact rfl))))) (by (conv => lhs; whnf); first | done | rfl) ?_)
                  all_goals (exact congrArg Value.bool (by first | rfl | decide))
                refine tq_n ?_
                exact ⟨(by first | ((repeat (first | with_reducible exact Ag.refl | with_reducible exact Ag.ov | (with_reducible refine Ag.upd ?_ ?_; exact rfl) | with_reducible refine Ag.putn ?_ | (with_reducible refine Ag.ovs ?_ ?_; exact rfl))); done) | (repeat (first | exact Ag.refl | exact Ag.ov | (refine Ag.upd ?_ ?_; exact rfl) | refine Ag.putn ?_ | (refine Ag.ovs ?_ ?_; exact rfl)))), [(7, .bool true)], _, (by first | exact SubL.out | repeat (first | exact List.Sublist.refl _ | exact List.nil_sublist _ | refine .cons_cons _ ?_ | refine .cons _ ?_ | refine List.Sublist.append (List.Sublist.refl _) ?_ | exact List.sublist_append_left _ _ | refine List.Sublist.trans ?_ (List.sublist_append_right _ _))), (by repeat (first | exact .nil | refine .cons rfl ?_)), ⟨rfl, rfl⟩⟩
              · refine c_skip ?_
                refine tq_n ?_
                exact ⟨(by first | ((repeat (first | with_reducible exact Ag.refl | with_reducible exact Ag.ov | (with_reducible refine Ag.upd ?_ ?_; exact rfl) | with_reducible refine Ag.putn ?_ | (with_reducible refine Ag.ovs ?_ ?_; exact rfl))); done) | (repeat (first | exact Ag.refl | exact Ag.ov | (refine Ag.upd ?_ ?_; exact rfl) | refine Ag.putn ?_ | (refine Ag.ovs ?_ ?_; exact rfl)))), [(7, .bool true)], _, (by first | exact SubL.out | repeat (first | exact List.Sublist.refl _ | exact List.nil_sublist _ | refine .cons_cons _ ?_ | refine .cons _ ?_ | refine List.Sublist.append (List.Sublist.refl _) ?_ | exact List.sublist_append_left _ _ | refine List.Sublist.trans ?_ (List.sublist_append_right _ _))), (by repeat (first | exact .nil | refine .cons rfl ?_)), ⟨rfl, rfl⟩⟩
            · rintro sM LM gM ⟨rfl, rfl⟩
              refine c_mid_ov [99, 100, 98, 101, 102, 103, 18, 19, 20, 104, 105, 106, 107, 108, 109, 110, 111, 7] (fun s L => s = [(7, .bool true)] ∧ L = [(b3, B 43 (cT t Ad cd Ah ch Al cl)), (b4, B 45 [.int .i64 k, .int .i64 b]), (b1, B 59 (cF4 t Ad cd Ah ch Al cl k b n ph))]) ?_ ?_
              · refine c_seq ?_
                refine c_region ?_
                refine x_ldao rfl (by (conv => lhs; whnf); first | done | rfl) (by first | exact HasC.out | exact PutC.out | repeat (first | exact .here | apply Has.there | apply Put.there | apply Has.app | apply Put.app)) rfl ?_
                refine x_call (switched_g (hT.sub (List.nil_sublist _))) rfl rfl rfl ?_
                rintro _ _ ⟨S33, rfl, hG⟩
                obtain ⟨g0, g1, g2, g3, g4, g5, g6, g7, g8, glv, ge, rfl, hgo, hgl, hge, _⟩ := FdR_form switched_err hG
                refine w_mov rfl (by (conv => lhs; whnf); first | done | rfl) ?_
                refine w_ext rfl (by (conv => lhs; whnf); first | done | rfl) (by (conv => lhs; whnf); first | done | rfl) ?_
                refine w_ext rfl (by (conv => lhs; whnf); first | done | rfl) (by (conv => lhs; whnf); first | done | rfl) ?_
                refine w_ext rfl (by (conv => lhs; whnf); first | done | rfl) (by (conv => lhs; whnf); first | done | rfl) ?_
                refine x_al rfl ?_
                intro b18
                refine x_stw rfl (by (conv => lhs; whnf); first | done | rfl) (by (conv => lhs; whnf); first | done | rfl) (rfl) (hgo) (by first | exact HasC.out | exact PutC.out | repeat (first | exact .here | apply Has.there | apply Put.there | apply Has.app | apply Put.app)) (by exact rfl) ?_
                refine w_asg rfl (by (conv => lhs; whnf); first | done | rfl) ?_
                refine w_asg rfl (by (conv => lhs; whnf); first | done | rfl) ?_
                refine w_nil ?_
                refine tq_n ?_
                refine c_seq ?_
                refine c_region ?_
                refine w_mov rfl (by (conv => lhs; whnf); first | done | rfl) ?_
                refine w_eql rfl (by (conv => lhs; whnf); first | done | rfl) (by (conv => lhs; whnf); first | done | rfl) ?_
                refine w_nil ?_
                refine tq_n ?_
                refine c_cond_d (by (conv => lhs; whnf); first | done | rfl) (fun hc105 => ?_) (fun hc105 => ?_)
                · obtain ⟨tx, lx, hst, hO, _⟩ := hge hc105
                  refine c_region_j [106, 107, 108, 109, 110, 111, 7] 7 (.bool (decide (True))) ?_ (fun g21 => ?_)
                  · all_goals (refine w_mov rfl (by (conv => lhs; whnf); first | done | rfl) ?_)
                    all_goals (refine w_mov rfl (by (conv => lhs; whnf); first | done | rfl) ?_)
                    all_goals (first | refine w_lit true rfl rfl rfl ?_ | refine w_lit false rfl rfl rfl ?_ | refine w_cases_od rfl rfl rfl (fun hg => ?_) (fun hg => ?_) | refine w_cases_o rfl rfl rfl (fun hg => ?_) (fun hg => ?_) | skip)
                    all_goals (first | refine w_skip rfl ?_ | (refine x_ldao rfl (by (conv => lhs; whnf); first | done | rfl) (by first | exact HasC.out | exact PutC.out | repeat (first | exact .here | apply Has.there | apply Put.there | apply Has.app | apply Put.app)) rfl ?_))
                    all_goals (first | refine w_skip rfl ?_ | (refine x_callp (by decide) (check_known_g (hO.use (by first | exact SubL.out | repeat (first | exact List.Sublist.refl _ | exact List.nil_sublist _ | refine .cons_cons _ ?_ | refine .cons _ ?_ | refine List.Sublist.append (List.Sublist.refl _) ?_ | exact List.sublist_append_left _ _ | refine List.Sublist.trans ?_ (List.sublist_append_right _ _)))) (may_switched hst)) rfl rfl rfl ?_))
                    all_goals (first | refine w_skip rfl ?_ | (refine w_eql rfl (by (conv => lhs; whnf); first | done | rfl) (by (conv => lhs; whnf); first | done | rfl) ?_))
                    all_goals (first | refine w_pick_t rfl rfl (by (conv => lhs; whnf); first | done | rfl) ?_ | refine w_pick_f rfl rfl (by (conv => lhs; whnf); first | done | rfl) ?_)
                    all_goals (refine w_asg rfl (by (conv => lhs; whnf); first | done | rfl) ?_)
                    all_goals (refine w_nil ?_)
                    all_goals (refine jn (by first | exact (Ag.upd rfl (Ag.upd rfl (Ag.upd rfl (Ag.upd rfl (Ag.upd rfl (Ag.upd rfl (Ag.upd rfl Ag.refl))))))) | exact (by first | ((repeat (first | with_reducible exact Ag.refl | with_reducible exact Ag.ov | (with_reducible refine Ag.upd ?_ ?_; exact rfl) | with_reducible refine Ag.putn ?_ | (with_reducible refine Ag.ovs ?_ ?_; exact rfl))); done) | (repeat (first | exact Ag.refl | exact Ag.ov | (refine Ag.upd ?_ ?_; exact rfl) | refine Ag.putn ?_ | (refine Ag.ovs ?_ ?_; exact rfl))))) (by (conv => lhs; whnf); first | done | rfl) ?_)
                    all_goals (exact congrArg Value.bool (by first | rfl | decide))
                  refine tq_n ?_
                  exact ⟨(by first | ((repeat (first | with_reducible exact Ag.refl | with_reducible exact Ag.ov | (with_reducible refine Ag.upd ?_ ?_; exact rfl) | with_reducible refine Ag.putn ?_ | (with_reducible refine Ag.ovs ?_ ?_; exact rfl))); done) | (repeat (first | exact Ag.refl | exact Ag.ov | (refine Ag.upd ?_ ?_; exact rfl) | refine Ag.putn ?_ | (refine Ag.ovs ?_ ?_; exact rfl)))), [(7, .bool true)], _, (by first | exact SubL.out | repeat (first | exact List.Sublist.refl _ | exact List.nil_sublist _ | refine .cons_cons _ ?_ | refine .cons _ ?_ | refine List.Sublist.append (List.Sublist.refl _) ?_ | exact List.sublist_append_left _ _ | refine List.Sublist.trans ?_ (List.sublist_append_right _ _))), (by repeat (first | exact .nil | refine .cons rfl ?_)), ⟨rfl, rfl⟩⟩
                · refine c_skip ?_
                  refine tq_n ?_
                  exact ⟨(by first | ((repeat (first | with_reducible exact Ag.refl | with_reducible exact Ag.ov | (with_reducible refine Ag.upd ?_ ?_; exact rfl) | with_reducible refine Ag.putn ?_ | (with_reducible refine Ag.ovs ?_ ?_; exact rfl))); done) | (repeat (first | exact Ag.refl | exact Ag.ov | (refine Ag.upd ?_ ?_; exact rfl) | refine Ag.putn ?_ | (refine Ag.ovs ?_ ?_; exact rfl)))), [(7, .bool true)], _, (by first | exact SubL.out | repeat (first | exact List.Sublist.refl _ | exact List.nil_sublist _ | refine .cons_cons _ ?_ | refine .cons _ ?_ | refine List.Sublist.append (List.Sublist.refl _) ?_ | exact List.sublist_append_left _ _ | refine List.Sublist.trans ?_ (List.sublist_append_right _ _))), (by repeat (first | exact .nil | refine .cons rfl ?_)), ⟨rfl, rfl⟩⟩
              · rintro sM LM gM ⟨rfl, rfl⟩
                refine c_mid_ov [113, 114, 112, 115, 116, 117, 21, 22, 23, 118, 119, 120, 121, 122, 123, 124, 125, 7] (fun s L => s = [(7, .bool true)] ∧ L = [(b3, B 43 (cT t Ad cd Ah ch Al cl)), (b4, B 45 [.int .i64 k, .int .i64 b]), (b1, B 59 (cF4 t Ad cd Ah ch Al cl k b n ph))]) ?_ ?_
                · refine c_seq ?_
                  refine c_region ?_
                  refine x_ldao rfl (by (conv => lhs; whnf); first | done | rfl) (by first | exact HasC.out | exact PutC.out | repeat (first | exact .here | apply Has.there | apply Put.there | apply Has.app | apply Put.app)) rfl ?_
                  refine x_call (dropped_g (hT.sub (List.nil_sublist _))) rfl rfl rfl ?_
                  rintro _ _ ⟨S29, rfl, hD⟩
                  obtain ⟨d0, d1, d2, d3, d4, d5, d6, d7, d8, dk, de, rfl, hdo, hde, _⟩ := DrR_form drop_err hD
                  refine w_mov rfl (by (conv => lhs; whnf); first | done | rfl) ?_
                  refine w_ext rfl (by (conv => lhs; whnf); first | done | rfl) (by (conv => lhs; whnf); first | done | rfl) ?_
                  refine w_ext rfl (by (conv => lhs; whnf); first | done | rfl) (by (conv => lhs; whnf); first | done | rfl) ?_
                  refine w_ext rfl (by (conv => lhs; whnf); first | done | rfl) (by (conv => lhs; whnf); first | done | rfl) ?_
                  refine x_al rfl ?_
                  intro b21
                  refine x_stw rfl (by (conv => lhs; whnf); first | done | rfl) (by (conv => lhs; whnf); first | done | rfl) (rfl) (hdo) (by first | exact HasC.out | exact PutC.out | repeat (first | exact .here | apply Has.there | apply Put.there | apply Has.app | apply Put.app)) (by exact rfl) ?_
                  refine w_asg rfl (by (conv => lhs; whnf); first | done | rfl) ?_
                  refine w_asg rfl (by (conv => lhs; whnf); first | done | rfl) ?_
                  refine w_nil ?_
                  refine tq_n ?_
                  refine c_seq ?_
                  refine c_region ?_
                  refine w_mov rfl (by (conv => lhs; whnf); first | done | rfl) ?_
                  refine w_eql rfl (by (conv => lhs; whnf); first | done | rfl) (by (conv => lhs; whnf); first | done | rfl) ?_
                  refine w_nil ?_
                  refine tq_n ?_
                  refine c_cond_d (by (conv => lhs; whnf); first | done | rfl) (fun hc119 => ?_) (fun hc119 => ?_)
                  · obtain ⟨tx, hst, hO⟩ := hde hc119
                    refine c_region_j [120, 121, 122, 123, 124, 125, 7] 7 (.bool (decide (True))) ?_ (fun g24 => ?_)
                    · all_goals (refine w_mov rfl (by (conv => lhs; whnf); first | done | rfl) ?_)
                      all_goals (refine w_mov rfl (by (conv => lhs; whnf); first | done | rfl) ?_)
                      all_goals (first | refine w_lit true rfl rfl rfl ?_ | refine w_lit false rfl rfl rfl ?_ | refine w_cases_od rfl rfl rfl (fun hg => ?_) (fun hg => ?_) | refine w_cases_o rfl rfl rfl (fun hg => ?_) (fun hg => ?_) | skip)
                      all_goals (first | refine w_skip rfl ?_ | (refine x_ldao rfl (by (conv => lhs; whnf); first | done | rfl) (by first | exact HasC.out | exact PutC.out | repeat (first | exact .here | apply Has.there | apply Put.there | apply Has.app | apply Put.app)) rfl ?_))
                      all_goals (first | refine w_skip rfl ?_ | (refine x_callp (by decide) (check_known_g (hO.use (by first | exact SubL.out | repeat (first | exact List.Sublist.refl _ | exact List.nil_sublist _ | refine .cons_cons _ ?_ | refine .cons _ ?_ | refine List.Sublist.append (List.Sublist.refl _) ?_ | exact List.sublist_append_left _ _ | refine List.Sublist.trans ?_ (List.sublist_append_right _ _)))) (may_drop hst)) rfl rfl rfl ?_))
                      all_goals (first | refine w_skip rfl ?_ | (refine w_eql rfl (by (conv => lhs; whnf); first | done | rfl) (by (conv => lhs; whnf); first | done | rfl) ?_))
                      all_goals (first | refine w_pick_t rfl rfl (by (conv => lhs; whnf); first | done | rfl) ?_ | refine w_pick_f rfl rfl (by (conv => lhs; whnf); first | done | rfl) ?_)
                      all_goals (refine w_asg rfl (by (conv => lhs; whnf); first | done | rfl) ?_)
                      all_goals (refine w_nil ?_)
                      all_goals (refine jn (by first | exact (Ag.upd rfl (Ag.upd rfl (Ag.upd rfl (Ag.upd rfl (Ag.upd rfl (Ag.upd rfl (Ag.upd rfl Ag.refl))))))) | exact (by first | ((repeat (first | with_reducible exact Ag.refl | with_reducible exact Ag.ov | (with_reducible refine Ag.upd ?_ ?_; exact rfl) | with_reducible refine Ag.putn ?_ | (with_reducible refine Ag.ovs ?_ ?_; exact rfl))); done) | (repeat (first | exact Ag.refl | exact Ag.ov | (refine Ag.upd ?_ ?_; exact rfl) | refine Ag.putn ?_ | (refine Ag.ovs ?_ ?_; exact rfl))))) (by (conv => lhs; whnf); first | done | rfl) ?_)
                      all_goals (exact congrArg Value.bool (by first | rfl | decide))
                    refine tq_n ?_
                    exact ⟨(by first | ((repeat (first | with_reducible exact Ag.refl | with_reducible exact Ag.ov | (with_reducible refine Ag.upd ?_ ?_; exact rfl) | with_reducible refine Ag.putn ?_ | (with_reducible refine Ag.ovs ?_ ?_; exact rfl))); done) | (repeat (first | exact Ag.refl | exact Ag.ov | (refine Ag.upd ?_ ?_; exact rfl) | refine Ag.putn ?_ | (refine Ag.ovs ?_ ?_; exact rfl)))), [(7, .bool true)], _, (by first | exact SubL.out | repeat (first | exact List.Sublist.refl _ | exact List.nil_sublist _ | refine .cons_cons _ ?_ | refine .cons _ ?_ | refine List.Sublist.append (List.Sublist.refl _) ?_ | exact List.sublist_append_left _ _ | refine List.Sublist.trans ?_ (List.sublist_append_right _ _))), (by repeat (first | exact .nil | refine .cons rfl ?_)), ⟨rfl, rfl⟩⟩
                  · refine c_skip ?_
                    refine tq_n ?_
                    exact ⟨(by first | ((repeat (first | with_reducible exact Ag.refl | with_reducible exact Ag.ov | (with_reducible refine Ag.upd ?_ ?_; exact rfl) | with_reducible refine Ag.putn ?_ | (with_reducible refine Ag.ovs ?_ ?_; exact rfl))); done) | (repeat (first | exact Ag.refl | exact Ag.ov | (refine Ag.upd ?_ ?_; exact rfl) | refine Ag.putn ?_ | (refine Ag.ovs ?_ ?_; exact rfl)))), [(7, .bool true)], _, (by first | exact SubL.out | repeat (first | exact List.Sublist.refl _ | exact List.nil_sublist _ | refine .cons_cons _ ?_ | refine .cons _ ?_ | refine List.Sublist.append (List.Sublist.refl _) ?_ | exact List.sublist_append_left _ _ | refine List.Sublist.trans ?_ (List.sublist_append_right _ _))), (by repeat (first | exact .nil | refine .cons rfl ?_)), ⟨rfl, rfl⟩⟩
                · rintro sM LM gM ⟨rfl, rfl⟩
                  refine c_seq ?_
                  refine c_region ?_
                  refine w_mov rfl (by (conv => lhs; whnf); first | done | rfl) ?_
                  refine w_asg rfl (by (conv => lhs; whnf); first | done | rfl) ?_
                  refine w_nil ?_
                  refine tq_n ?_
                  refine c_ret ?_
                  exact rq_r (ra_t (by (conv => lhs; whnf); first | done | rfl) .nil) (List.nil_sublist _) (⟨rfl, rfl⟩)
theorem kept_g {t : Tb} {Ad Ah Al : Option Addr} {cd ch cl : Nat} {b ph : Int} (h : TabR w0 L (.agg (cT t Ad cd Ah ch Al cl).toArray) t) (hb : b ≤ 9223372036854775807) : Gives Try.prog w0 L 6 [.agg (cT t Ad cd Ah ch Al cl).toArray, .int .i64 b, .int .i64 ph] (fun v' L' => v' = .bool true ∧ L' = L) := by
  refine enterP Try.func6 rfl Try.ntmps6 Try.results6 (Nat.le_of_ble_eq_true rfl) fun w hM => ?_
  have hT := h.at hM
  clear hM h
  refine c_seq ?_
  refine c_region ?_
  refine x_boxa rfl (by (conv => lhs; whnf); first | done | rfl) ?_
  intro b3
  refine w_asg rfl (by (conv => lhs; whnf); first | done | rfl) ?_
  refine w_nil ?_
  refine tq_n ?_
  refine c_seq ?_
  refine c_seq ?_
  refine c_region ?_
  refine x_callp (by decide) (live_g) rfl rfl rfl ?_
  refine w_not rfl (by (conv => lhs; whnf); first | done | rfl) ?_
  refine w_nil ?_
  refine tq_n ?_
  refine c_cond_f rfl ?_
  refine c_skip ?_
  refine tq_n ?_
  refine c_seq ?_
  refine c_seq ?_
  refine c_region_j [15, 16, 17, 18, 19, 20, 21, 22] 22 (.bool (decide (¬ ((t.da.length ≤ 64 ∧ t.ha.length ≤ 1024) ∧ t.lo.length ≤ 12) ∨ ¬ May t))) ?_ (fun g3 => ?_)
  · all_goals (refine x_ldao rfl (by (conv => lhs; whnf); first | done | rfl) (by first | exact HasC.out | exact PutC.out | repeat (first | exact .here | apply Has.there | apply Put.there | apply Has.app | apply Put.app)) rfl ?_)
    all_goals (refine x_callp (by decide) (small_g (hT.sub (List.nil_sublist _))) rfl rfl rfl ?_)
    all_goals (refine w_notd rfl (by (conv => lhs; whnf); first | done | rfl) ?_)
    all_goals (refine w_mov rfl (by (conv => lhs; whnf); first | done | rfl) ?_)
    all_goals (first | refine w_lit true rfl rfl rfl ?_ | refine w_lit false rfl rfl rfl ?_ | refine w_cases_od rfl rfl rfl (fun hg => ?_) (fun hg => ?_) | refine w_cases_o rfl rfl rfl (fun hg => ?_) (fun hg => ?_) | skip)
    all_goals (first | refine w_skip rfl ?_ | (refine x_ldao rfl (by (conv => lhs; whnf); first | done | rfl) (by first | exact HasC.out | exact PutC.out | repeat (first | exact .here | apply Has.there | apply Put.there | apply Has.app | apply Put.app)) rfl ?_))
    all_goals (first | refine w_skip rfl ?_ | (refine x_callp (by decide) (check_g (hT.sub (List.nil_sublist _))) rfl rfl rfl ?_))
    all_goals (first | refine w_skip rfl ?_ | (refine w_neq rfl (by (conv => lhs; whnf); first | done | rfl) (by (conv => lhs; whnf); first | done | rfl) ?_))
    all_goals (first | refine w_pick_t rfl rfl (by (conv => lhs; whnf); first | done | rfl) ?_ | refine w_pick_f rfl rfl (by (conv => lhs; whnf); first | done | rfl) ?_)
    all_goals (refine w_nil ?_)
    all_goals (refine jn (by first | exact (Ag.upd rfl (Ag.upd rfl (Ag.upd rfl (Ag.upd rfl (Ag.upd rfl (Ag.upd rfl (Ag.upd rfl (Ag.upd rfl Ag.refl)))))))) | exact (by first | ((repeat (first | with_reducible exact Ag.refl | with_reducible exact Ag.ov | (with_reducible refine Ag.upd ?_ ?_; exact rfl) | with_reducible refine Ag.putn ?_ | (with_reducible refine Ag.ovs ?_ ?_; exact rfl))); done) | (repeat (first | exact Ag.refl | exact Ag.ov | (refine Ag.upd ?_ ?_; exact rfl) | refine Ag.putn ?_ | (refine Ag.ovs ?_ ?_; exact rfl))))) (by (conv => lhs; whnf); first | done | rfl) ?_)
    all_goals (exact congrArg Value.bool (by first | exact (decide_eq_true (Or.inl hg)).symm | exact decide_eq_decide.2 ⟨fun h => .inr fun hm => h (if_pos hm), fun h e => by rcases h with h | h; exact hg h; rw [if_neg h] at e; cases e⟩))
  refine tq_n ?_
  refine c_cond_d (by (conv => lhs; whnf); first | done | rfl) (fun hc22 => ?_) (fun hc22 => ?_)
  · refine c_seq ?_
    refine c_region ?_
    refine w_asg rfl (by (conv => lhs; whnf); first | done | rfl) ?_
    refine w_nil ?_
    refine tq_n ?_
    refine c_ret ?_
    refine tq_r ?_
    exact rq_r (ra_t (by (conv => lhs; whnf); first | done | rfl) .nil) (List.nil_sublist _) (⟨rfl, rfl⟩)
  · have hm : May t := Decidable.byContradiction fun hm => hc22 (.inr hm)
    refine c_skip ?_
    refine tq_n ?_
    refine c_seq ?_
    refine c_seq ?_
    refine c_region ?_
    refine x_ldao rfl (by (conv => lhs; whnf); first | done | rfl) (by first | exact HasC.out | exact PutC.out | repeat (first | exact .here | apply Has.there | apply Put.there | apply Has.app | apply Put.app)) rfl ?_
    refine w_mov rfl (by (conv => lhs; whnf); first | done | rfl) ?_
    refine w_mov rfl (by (conv => lhs; whnf); first | done | rfl) ?_
    refine x_call (folded_g (hT.sub (List.nil_sublist _)) hb) rfl rfl rfl ?_
    rintro _ _ ⟨S31, rfl, hF⟩
    obtain ⟨f0, f1, f2, f3, f4, f5, f6, f7, f8, flv, fe, rfl, hfo, hfl, hfe, _⟩ := FdR_form folded_err hF
    refine w_mov rfl (by (conv => lhs; whnf); first | done | rfl) ?_
    refine w_ext rfl (by (conv => lhs; whnf); first | done | rfl) (by (conv => lhs; whnf); first | done | rfl) ?_
    refine w_ext rfl (by (conv => lhs; whnf); first | done | rfl) (by (conv => lhs; whnf); first | done | rfl) ?_
    refine w_ext rfl (by (conv => lhs; whnf); first | done | rfl) (by (conv => lhs; whnf); first | done | rfl) ?_
    refine x_al rfl ?_
    intro b7
    refine x_stw rfl (by (conv => lhs; whnf); first | done | rfl) (by (conv => lhs; whnf); first | done | rfl) (rfl) (hfo) (by first | exact HasC.out | exact PutC.out | repeat (first | exact .here | apply Has.there | apply Put.there | apply Has.app | apply Put.app)) (by exact rfl) ?_
    refine w_asg rfl (by (conv => lhs; whnf); first | done | rfl) ?_
    refine w_asg rfl (by (conv => lhs; whnf); first | done | rfl) ?_
    refine w_nil ?_
    refine tq_n ?_
    refine c_seq ?_
    refine c_region_j [31, 32, 33, 34, 35, 36, 37, 38, 39, 40] 40 (.bool (decide (False))) ?_ (fun g6 => ?_)
    · all_goals (refine w_mov rfl (by (conv => lhs; whnf); first | done | rfl) ?_)
      all_goals (refine w_eql rfl (by (conv => lhs; whnf); first | done | rfl) (by (conv => lhs; whnf); first | done | rfl) ?_)
      all_goals (refine w_mov rfl (by (conv => lhs; whnf); first | done | rfl) ?_)
      all_goals (first | refine w_lit true rfl rfl rfl ?_ | refine w_lit false rfl rfl rfl ?_ | refine w_cases_od rfl rfl rfl (fun hg => ?_) (fun hg => ?_) | refine w_cases_o rfl rfl rfl (fun hg => ?_) (fun hg => ?_) | skip)
      all_goals (first | refine w_skip rfl ?_ | (refine x_ldao rfl (by (conv => lhs; whnf); first | done | rfl) (by first | exact HasC.out | exact PutC.out | repeat (first | exact .here | apply Has.there | apply Put.there | apply Has.app | apply Put.app)) rfl ?_))
      all_goals (first | refine w_skip rfl ?_ | (refine x_ldao rfl (by (conv => lhs; whnf); first | done | rfl) (by first | exact HasC.out | exact PutC.out | repeat (first | exact .here | apply Has.there | apply Put.there | apply Has.app | apply Put.app)) rfl ?_))
      all_goals (first | refine w_skip rfl ?_ | (refine w_mov rfl (by (conv => lhs; whnf); first | done | rfl) ?_))
      all_goals (first | refine w_skip rfl ?_ | (refine w_mov rfl (by (conv => lhs; whnf); first | done | rfl) ?_))
      all_goals (first | refine w_skip rfl ?_ | (refine x_callp (by decide) ((show ∃ tx lx, folded t b ph = .inr (tx, lx) ∧ TabO S31 _ tx ∧ _ from hfe hg).elim fun tx h1 => h1.elim fun lx h2 => stands_g (x := tx) (hT.sub (List.nil_sublist _)) (h2.2.1.use (by first | exact SubL.out | repeat (first | exact List.Sublist.refl _ | exact List.nil_sublist _ | refine .cons_cons _ ?_ | refine .cons _ ?_ | refine List.Sublist.append (List.Sublist.refl _) ?_ | exact List.sublist_append_left _ _ | refine List.Sublist.trans ?_ (List.sublist_append_right _ _)))) hm (folded_of h2.1).2.1.1 (folded_of h2.1).2.1.2 (by obtain ⟨a1, a2, a3, rfl, _⟩ := folded_of h2.1; exact std_set a1 a2.1 a2.2 (may_folded h2.1))) rfl rfl rfl ?_))
      all_goals (first | refine w_skip rfl ?_ | (refine w_not rfl (by (conv => lhs; whnf); first | done | rfl) ?_))
      all_goals (first | refine w_pick_t rfl rfl (by (conv => lhs; whnf); first | done | rfl) ?_ | refine w_pick_f rfl rfl (by (conv => lhs; whnf); first | done | rfl) ?_)
      all_goals (refine w_nil ?_)
      all_goals (refine jn (by first | exact (Ag.upd rfl (Ag.upd rfl (Ag.upd rfl (Ag.upd rfl (Ag.upd rfl (Ag.upd rfl (Ag.upd rfl (Ag.upd rfl (Ag.upd rfl (Ag.upd rfl Ag.refl)))))))))) | exact (by first | ((repeat (first | with_reducible exact Ag.refl | with_reducible exact Ag.ov | (with_reducible refine Ag.upd ?_ ?_; exact rfl) | with_reducible refine Ag.putn ?_ | (with_reducible refine Ag.ovs ?_ ?_; exact rfl))); done) | (repeat (first | exact Ag.refl | exact Ag.ov | (refine Ag.upd ?_ ?_; exact rfl) | refine Ag.putn ?_ | (refine Ag.ovs ?_ ?_; exact rfl))))) (by (conv => lhs; whnf); first | done | rfl) ?_)
      all_goals (exact congrArg Value.bool (by first | rfl | decide))
    refine tq_n ?_
    refine c_cond_d (by (conv => lhs; whnf); first | done | rfl) (fun hc40 => ?_) (fun hc40 => ?_)
    · exact hc40.elim
    · refine c_skip ?_
      refine tq_n ?_
      refine c_seq ?_
      refine c_region ?_
      refine x_ldao rfl (by (conv => lhs; whnf); first | done | rfl) (by first | exact HasC.out | exact PutC.out | repeat (first | exact .here | apply Has.there | apply Put.there | apply Has.app | apply Put.app)) rfl ?_
      refine x_call (switched_g (hT.sub (List.nil_sublist _))) rfl rfl rfl ?_
      rintro _ _ ⟨S33, rfl, hG⟩
      obtain ⟨g0, g1, g2, g3, g4, g5, g6, g7, g8, glv, ge, rfl, hgo, hgl, hge, _⟩ := FdR_form switched_err hG
      refine w_mov rfl (by (conv => lhs; whnf); first | done | rfl) ?_
      refine w_ext rfl (by (conv => lhs; whnf); first | done | rfl) (by (conv => lhs; whnf); first | done | rfl) ?_
      refine w_ext rfl (by (conv => lhs; whnf); first | done | rfl) (by (conv => lhs; whnf); first | done | rfl) ?_
      refine w_ext rfl (by (conv => lhs; whnf); first | done | rfl) (by (conv => lhs; whnf); first | done | rfl) ?_
      refine x_al rfl ?_
      intro b10
      refine x_stw rfl (by (conv => lhs; whnf); first | done | rfl) (by (conv => lhs; whnf); first | done | rfl) (rfl) (hgo) (by first | exact HasC.out | exact PutC.out | repeat (first | exact .here | apply Has.there | apply Put.there | apply Has.app | apply Put.app)) (by exact rfl) ?_
      refine w_asg rfl (by (conv => lhs; whnf); first | done | rfl) ?_
      refine w_asg rfl (by (conv => lhs; whnf); first | done | rfl) ?_
      refine w_nil ?_
      refine tq_n ?_
      refine c_seq ?_
      refine c_region_j [47, 48, 49, 50, 51, 52, 53, 54, 55, 56, 57, 58, 59, 6] 6 (.bool (decide (True))) ?_ (fun g9 => ?_)
      · all_goals (refine w_mov rfl (by (conv => lhs; whnf); first | done | rfl) ?_)
        all_goals (refine w_neq rfl (by (conv => lhs; whnf); first | done | rfl) (by (conv => lhs; whnf); first | done | rfl) ?_)
        all_goals (refine w_mov rfl (by (conv => lhs; whnf); first | done | rfl) ?_)
        all_goals (first | refine w_lit true rfl rfl rfl ?_ | refine w_lit false rfl rfl rfl ?_ | refine w_cases_od rfl rfl rfl (fun hg => ?_) (fun hg => ?_) | refine w_cases_o rfl rfl rfl (fun hg => ?_) (fun hg => ?_) | skip)
        all_goals (first | refine w_skip rfl ?_ | (refine x_ldao rfl (by (conv => lhs; whnf); first | done | rfl) (by first | exact HasC.out | exact PutC.out | repeat (first | exact .here | apply Has.there | apply Put.there | apply Has.app | apply Put.app)) rfl ?_))
        all_goals (first | refine w_skip rfl ?_ | (refine x_ldao rfl (by (conv => lhs; whnf); first | done | rfl) (by first | exact HasC.out | exact PutC.out | repeat (first | exact .here | apply Has.there | apply Put.there | apply Has.app | apply Put.app)) rfl ?_))
        all_goals (first | refine w_skip rfl ?_ | (refine x_fa rfl (by (conv => lhs; whnf); first | done | rfl) ?_))
        all_goals (first | refine w_skip rfl ?_ | (refine x_fa rfl (by (conv => lhs; whnf); first | done | rfl) ?_))
        all_goals (first | refine w_skip rfl ?_ | (refine x_ldo rfl (by (conv => lhs; whnf); first | done | rfl) (by first | exact HasC.out | exact PutC.out | repeat (first | exact .here | apply Has.there | apply Put.there | apply Has.app | apply Put.app)) (by (conv => lhs; whnf); first | done | rfl) ?_))
        all_goals (first | refine w_skip rfl ?_ | (refine x_fa rfl (by (conv => lhs; whnf); first | done | rfl) ?_))
        all_goals (first | refine w_skip rfl ?_ | (refine x_fa rfl (by (conv => lhs; whnf); first | done | rfl) ?_))
        all_goals (first | refine w_skip rfl ?_ | (refine x_ldo rfl (by (conv => lhs; whnf); first | done | rfl) (by first | exact HasC.out | exact PutC.out | repeat (first | exact .here | apply Has.there | apply Put.there | apply Has.app | apply Put.app)) (by (conv => lhs; whnf); first | done | rfl) ?_))
        all_goals (first | refine w_skip rfl ?_ | (refine x_callp (by decide) ((show ∃ tx lx, switched t = .inr (tx, lx) ∧ TabO S33 _ tx ∧ _ from hge (Decidable.not_not.1 hg)).elim fun tx h1 => h1.elim fun lx h2 => stands_g (x := tx) (hT.sub (List.nil_sublist _)) (h2.2.1.use (by first | exact SubL.out | repeat (first | exact List.Sublist.refl _ | exact List.nil_sublist _ | refine .cons_cons _ ?_ | refine .cons _ ?_ | refine List.Sublist.append (List.Sublist.refl _) ?_ | exact List.sublist_append_left _ _ | refine List.Sublist.trans ?_ (List.sublist_append_right _ _)))) hm (switched_of h2.1).2.1.1 (switched_of h2.1).2.1.2 (by obtain ⟨a1, a2, a3, _, rfl, _⟩ := switched_of h2.1; exact std_set a1 a2.1 a2.2 (may_switched h2.1))) rfl rfl rfl ?_))
        all_goals (first | refine w_pick_t rfl rfl (by (conv => lhs; whnf); first | done | rfl) ?_ | refine w_pick_f rfl rfl (by (conv => lhs; whnf); first | done | rfl) ?_)
        all_goals (refine w_asg rfl (by (conv => lhs; whnf); first | done | rfl) ?_)
        all_goals (refine w_nil ?_)
        all_goals (refine jn (by first | exact (Ag.upd rfl (Ag.upd rfl (Ag.upd rfl (Ag.upd rfl (Ag.upd rfl (Ag.upd rfl (Ag.upd rfl (Ag.upd rfl (Ag.upd rfl (Ag.upd rfl (Ag.upd rfl (Ag.upd rfl (Ag.upd rfl (Ag.upd rfl Ag.refl)))))))))))))) | exact (by first | ((repeat (first | with_reducible exact Ag.refl | with_reducible exact Ag.ov | (with_reducible refine Ag.upd ?_ ?_; exact rfl) | with_reducible refine Ag.putn ?_ | (with_reducible refine Ag.ovs ?_ ?_; exact rfl))); done) | (repeat (first | exact Ag.refl | exact Ag.ov | (refine Ag.upd ?_ ?_; exact rfl) | refine Ag.putn ?_ | (refine Ag.ovs ?_ ?_; exact rfl))))) (by (conv => lhs; whnf); first | done | rfl) ?_)
        all_goals (exact congrArg Value.bool (by first | rfl | decide))
      refine tq_n ?_
      refine c_ret ?_
      exact rq_r (ra_t (by (conv => lhs; whnf); first | done | rfl) .nil) (List.nil_sublist _) (⟨rfl, rfl⟩)
end
end Go.Proofs.Ytnmhhelcaibdoaa.Pl
