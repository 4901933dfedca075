/- PlanSteps, walked. -/
import Derived.Test.YtnmhhelcaibdoaaEf
import Derived.Test.YtnmhhelcaibdoaaPs
import Derived.Test.YtnmhhelcaibdoaaVf
namespace Go.Proofs.Ytnmhhelcaibdoaa.Pl
open Go Go.RowKit Sl
set_option linter.unusedVariables false
set_option linter.unusedSimpArgs false
def tb0 : Tb := ⟨0, 0, 0, [], [], 0, 0, 0, []⟩
theorem sl_nil {α : Type} {enc : α → List Value} {w0 : World} {L : Own} : SlR w0 L enc (.slice none 0 0) [] := ⟨none, 0, rfl, Nat.le_refl _, by simp, fun h => absurd rfl h, fun i c h => by simp at h⟩
theorem tabO_z {S : Own} : TabO S (.agg zT.toArray) tb0 := fun w0 L _ => ⟨_, _, _, rfl, sl_nil, sl_nil, logR_nil⟩
def sE {α : Type} : Sum Int α → Int
  | .inl e => e
  | .inr _ => 0
def sV {α β : Type} (z : β) (f : α → β) : Sum Int α → β
  | .inl _ => z
  | .inr a => f a
theorem OpR_tab {x : Sum Int Tb} {v : Value} {S : Own} (h : OpR x v S) : ∃ c0 c1 c2 c3 c4 c5 c6 c7 c8, v = .tuple #[.agg #[c0, c1, c2, c3, c4, c5, c6, c7, c8], .int .i64 (sE x)] ∧ [c0, c1, c2, c3, c4, c5, c6, c7, c8].all Value.oneCell' = true ∧ TabO S (.agg #[c0, c1, c2, c3, c4, c5, c6, c7, c8]) (sV tb0 id x) := by
  cases x with
  | inl e => exact ⟨_, _, _, _, _, _, _, _, _, h, rfl, tabO_z⟩
  | inr t =>
    obtain ⟨tv, rfl, hO⟩ := h
    obtain ⟨c0, c1, c2, c3, c4, c5, c6, c7, c8, rfl, ho⟩ := tabO_cells hO
    exact ⟨_, _, _, _, _, _, _, _, _, rfl, ho, hO⟩
theorem PutR_tab {x : Sum Int (Tb × Int × Int)} {v : Value} {S : Own} (h : PutR x v S) : ∃ c0 c1 c2 c3 c4 c5 c6 c7 c8, v = .tuple #[.agg #[c0, c1, c2, c3, c4, c5, c6, c7, c8], .agg #[.int .i64 (sV 0 (fun y => y.2.1) x), .int .i64 (sV 0 (fun y => y.2.2) x)], .int .i64 (sE x)] ∧ [c0, c1, c2, c3, c4, c5, c6, c7, c8].all Value.oneCell' = true ∧ TabO S (.agg #[c0, c1, c2, c3, c4, c5, c6, c7, c8]) (sV tb0 (fun y => y.1) x) := by
  cases x with
  | inl e => exact ⟨_, _, _, _, _, _, _, _, _, h, rfl, tabO_z⟩
  | inr t =>
    obtain ⟨t, a, b⟩ := t
    obtain ⟨tv, rfl, hO⟩ := h
    obtain ⟨c0, c1, c2, c3, c4, c5, c6, c7, c8, rfl, ho⟩ := tabO_cells hO
    exact ⟨_, _, _, _, _, _, _, _, _, rfl, ho, hO⟩
theorem DrR_tab {x : Sum Int (Tb × Int)} {v : Value} {S : Own} (h : DrR x v S) : ∃ c0 c1 c2 c3 c4 c5 c6 c7 c8, v = .tuple #[.agg #[c0, c1, c2, c3, c4, c5, c6, c7, c8], .int .i64 (sV 0 (fun y => y.2) x), .int .i64 (sE x)] ∧ [c0, c1, c2, c3, c4, c5, c6, c7, c8].all Value.oneCell' = true ∧ TabO S (.agg #[c0, c1, c2, c3, c4, c5, c6, c7, c8]) (sV tb0 (fun y => y.1) x) := by
  cases x with
  | inl e => exact ⟨_, _, _, _, _, _, _, _, _, h, rfl, tabO_z⟩
  | inr t =>
    obtain ⟨t, a⟩ := t
    obtain ⟨tv, rfl, hO⟩ := h
    obtain ⟨c0, c1, c2, c3, c4, c5, c6, c7, c8, rfl, ho⟩ := tabO_cells hO
    exact ⟨_, _, _, _, _, _, _, _, _, rfl, ho, hO⟩
theorem FdR_tab {x : Sum Int (Tb × List Int)} {v : Value} {S : Own} (h : FdR x v S) : ∃ c0 c1 c2 c3 c4 c5 c6 c7 c8 lv, v = .tuple #[.agg #[c0, c1, c2, c3, c4, c5, c6, c7, c8], lv, .int .i64 (sE x)] ∧ [c0, c1, c2, c3, c4, c5, c6, c7, c8].all Value.oneCell' = true ∧ lv.oneCell' = true ∧ TabO S (.agg #[c0, c1, c2, c3, c4, c5, c6, c7, c8]) (sV tb0 (fun y => y.1) x) ∧ FL S lv (sV [] (fun y => y.2) x) := by
  cases x with
  | inl e => exact ⟨_, _, _, _, _, _, _, _, _, _, h, rfl, rfl, tabO_z, fun w0 L _ => sl_nil⟩
  | inr t =>
    obtain ⟨t, l⟩ := t
    obtain ⟨tv, lv, rfl, hl, hO, hF⟩ := h
    obtain ⟨c0, c1, c2, c3, c4, c5, c6, c7, c8, rfl, ho⟩ := tabO_cells hO
    exact ⟨_, _, _, _, _, _, _, _, _, _, rfl, ho, hl, hO, hF⟩
section
variable {w0 : World} {L : Own}
theorem clonr_tab {v : Value} {t : Tb} (h : TabR w0 L v t) (hc : ClB t) : Gives Try.prog w0 L 17 [v] (fun v' L' => ∃ S, L' = S ++ L ∧ ∃ c0 c1 c2 c3 c4 c5 c6 c7 c8, v' = .agg #[c0, c1, c2, c3, c4, c5, c6, c7, c8] ∧ [c0, c1, c2, c3, c4, c5, c6, c7, c8].all Value.oneCell' = true ∧ TabO S (.agg #[c0, c1, c2, c3, c4, c5, c6, c7, c8]) t) :=
  (clonr_g h hc).mono fun v' L' ⟨S, h1, Sv, Sp, Sd, Sh, h2, hT⟩ => by
    have hO : TabO S v' t := fun w0 L hs => by
      subst h2
      exact hT.tabB hc (List.Sublist.trans (show Sv.Sublist (Sv ++ (Sp ++ (Sh ++ Sd))) from (by first | exact SubL.out | repeat (first | exact List.Sublist.refl _ | exact List.nil_sublist _ | refine .cons_cons _ ?_ | refine .cons _ ?_ | refine List.Sublist.append (List.Sublist.refl _) ?_ | exact List.sublist_append_left _ _ | refine List.Sublist.trans ?_ (List.sublist_append_right _ _)))) hs) (List.Sublist.trans (show Sp.Sublist (Sv ++ (Sp ++ (Sh ++ Sd))) from (by first | exact SubL.out | repeat (first | exact List.Sublist.refl _ | exact List.nil_sublist _ | refine .cons_cons _ ?_ | refine .cons _ ?_ | refine List.Sublist.append (List.Sublist.refl _) ?_ | exact List.sublist_append_left _ _ | refine List.Sublist.trans ?_ (List.sublist_append_right _ _)))) hs) (List.Sublist.trans (show Sd.Sublist (Sv ++ (Sp ++ (Sh ++ Sd))) from (by first | exact SubL.out | repeat (first | exact List.Sublist.refl _ | exact List.nil_sublist _ | refine .cons_cons _ ?_ | refine .cons _ ?_ | refine List.Sublist.append (List.Sublist.refl _) ?_ | exact List.sublist_append_left _ _ | refine List.Sublist.trans ?_ (List.sublist_append_right _ _)))) hs) (List.Sublist.trans (show Sh.Sublist (Sv ++ (Sp ++ (Sh ++ Sd))) from (by first | exact SubL.out | repeat (first | exact List.Sublist.refl _ | exact List.nil_sublist _ | refine .cons_cons _ ?_ | refine .cons _ ?_ | refine List.Sublist.append (List.Sublist.refl _) ?_ | exact List.sublist_append_left _ _ | refine List.Sublist.trans ?_ (List.sublist_append_right _ _)))) hs)
    obtain ⟨c0, c1, c2, c3, c4, c5, c6, c7, c8, rfl, ho⟩ := tabO_cells hO
    exact ⟨S, h1, _, _, _, _, _, _, _, _, _, rfl, ho, hO⟩
set_option maxHeartbeats 8000000 in
theorem steps_g {t : Tb} {Ad Ah Al : Option Addr} {cd ch cl : Nat} {k b n : Int} (h : TabR w0 L (.agg (cT t Ad cd Ah ch Al cl).toArray) t) (hB : ∀ l ∈ t.lo, l.pg.length ≤ 17592186043904) : Gives Try.prog w0 L 4 [.agg (cT t Ad cd Ah ch Al cl).toArray, .agg #[.int .i64 k, .int .i64 b], .int .i64 n] (fun v' L' => v' = .bool true ∧ L' = L) := by
  refine enterP Try.func4 rfl Try.ntmps4 Try.results4 (Nat.le_of_ble_eq_true rfl) fun w hM => ?_
  have hT := h.at hM
  clear hM h
  refine c_seq ?_
  refine c_region ?_
  refine x_boxa rfl (by (conv => lhs; whnf); first | done | rfl) ?_
  intro b3
  refine x_boxa rfl (by (conv => lhs; whnf); first | done | rfl) ?_
  intro b4
  refine w_asg rfl (by (conv => lhs; whnf); first | done | rfl) ?_
  refine w_nil ?_
  refine tq_n ?_
  refine c_seq ?_
  refine c_seq ?_
  refine c_region ?_
  refine x_callp (by decide) (live_g) rfl rfl rfl ?_
  refine w_not rfl (by (conv => lhs; whnf); first | done | rfl) ?_
  refine w_nil ?_
  refine tq_n ?_
  refine c_cond_f rfl ?_
  refine c_skip ?_
  refine tq_n ?_
  refine c_seq ?_
  refine c_seq ?_
  refine c_region ?_
  refine x_ldao rfl (by (conv => lhs; whnf); first | done | rfl) (by first | exact HasC.out | exact PutC.out | repeat (first | exact .here | apply Has.there | apply Put.there | apply Has.app | apply Put.app)) rfl ?_
  refine x_callp (by decide) (small_g (hT.sub (List.nil_sublist _))) rfl rfl rfl ?_
  refine w_notd rfl (by (conv => lhs; whnf); first | done | rfl) ?_
  refine w_nil ?_
  refine tq_n ?_
  refine c_cond_d (by (conv => lhs; whnf); first | done | rfl) (fun hc20 => ?_) (fun hc20 => ?_)
  · refine c_seq ?_
    refine c_region ?_
    refine w_asg rfl (by (conv => lhs; whnf); first | done | rfl) ?_
    refine w_nil ?_
    refine tq_n ?_
    refine c_ret ?_
    refine tq_r ?_
    exact rq_r (ra_t (by (conv => lhs; whnf); first | done | rfl) .nil) (List.nil_sublist _) (⟨rfl, rfl⟩)
  · have hsm := Decidable.not_not.1 hc20
    have hcb : ClB t := ⟨by omega, by omega, by omega, hB⟩
    refine c_skip ?_
    refine tq_n ?_
    refine c_seq ?_
    refine c_region ?_
    refine x_ldao rfl (by (conv => lhs; whnf); first | done | rfl) (by first | exact HasC.out | exact PutC.out | repeat (first | exact .here | apply Has.there | apply Put.there | apply Has.app | apply Put.app)) rfl ?_
    refine x_call (clonr_tab (hT.sub (List.nil_sublist _)) hcb) rfl rfl rfl ?_
    rintro _ _ ⟨S17, rfl, q0, q1, q2, q3, q4, q5, q6, q7, q8, rfl, hqo, hqT⟩
    refine x_al rfl ?_
    intro b7
    refine x_stw rfl (by (conv => lhs; whnf); first | done | rfl) (by (conv => lhs; whnf); first | done | rfl) (rfl) (hqo) (by first | exact HasC.out | exact PutC.out | repeat (first | exact .here | apply Has.there | apply Put.there | apply Has.app | apply Put.app)) (by exact rfl) ?_
    refine w_nil ?_
    refine tq_n ?_
    refine c_seq ?_
    refine c_region ?_
    refine x_ldao rfl (by (conv => lhs; whnf); first | done | rfl) (by first | exact HasC.out | exact PutC.out | repeat (first | exact .here | apply Has.there | apply Put.there | apply Has.app | apply Put.app)) rfl ?_
    refine w_mov rfl (by (conv => lhs; whnf); first | done | rfl) ?_
    refine x_callp (by decide) (want_g (hT.sub (List.nil_sublist _))) rfl rfl rfl ?_
    refine w_mov rfl (by (conv => lhs; whnf); first | done | rfl) ?_
    refine w_ext rfl (by (conv => lhs; whnf); first | done | rfl) (by (conv => lhs; whnf); first | done | rfl) ?_
    refine w_ext rfl (by (conv => lhs; whnf); first | done | rfl) (by (conv => lhs; whnf); first | done | rfl) ?_
    refine x_al rfl ?_
    intro b8
    refine x_stw rfl (by (conv => lhs; whnf); first | done | rfl) (by (conv => lhs; whnf); first | done | rfl) rfl rfl (by first | exact HasC.out | exact PutC.out | repeat (first | exact .here | apply Has.there | apply Put.there | apply Has.app | apply Put.app)) rfl ?_
    refine w_asg rfl (by (conv => lhs; whnf); first | done | rfl) ?_
    refine w_nil ?_
    refine tq_n ?_
    refine c_seq ?_
    refine c_region ?_
    refine x_ldao rfl (by (conv => lhs; whnf); first | done | rfl) (by first | exact HasC.out | exact PutC.out | repeat (first | exact .here | apply Has.there | apply Put.there | apply Has.app | apply Put.app)) rfl ?_
    refine w_mov rfl (by (conv => lhs; whnf); first | done | rfl) ?_
    refine x_callp (by decide) (wantr_g (hT.sub (List.nil_sublist _))) rfl rfl rfl ?_
    refine w_mov rfl (by (conv => lhs; whnf); first | done | rfl) ?_
    refine w_ext rfl (by (conv => lhs; whnf); first | done | rfl) (by (conv => lhs; whnf); first | done | rfl) ?_
    refine w_ext rfl (by (conv => lhs; whnf); first | done | rfl) (by (conv => lhs; whnf); first | done | rfl) ?_
    refine x_al rfl ?_
    intro b10
    refine x_stw rfl (by (conv => lhs; whnf); first | done | rfl) (by (conv => lhs; whnf); first | done | rfl) rfl rfl (by first | exact HasC.out | exact PutC.out | repeat (first | exact .here | apply Has.there | apply Put.there | apply Has.app | apply Put.app)) rfl ?_
    refine w_asg rfl (by (conv => lhs; whnf); first | done | rfl) ?_
    refine w_nil ?_
    refine tq_n ?_
    refine c_seq ?_
    refine c_seq ?_
    refine c_region_j [35, 36, 37, 38, 39, 40, 41, 42] 42 (.bool (decide (False))) ?_ (fun g8 => ?_)
    · all_goals (refine x_ldao rfl (by (conv => lhs; whnf); first | done | rfl) (by first | exact HasC.out | exact PutC.out | repeat (first | exact .here | apply Has.there | apply Put.there | apply Has.app | apply Put.app)) rfl ?_)
      all_goals (refine x_ldao rfl (by (conv => lhs; whnf); first | done | rfl) (by first | exact HasC.out | exact PutC.out | repeat (first | exact .here | apply Has.there | apply Put.there | apply Has.app | apply Put.app)) rfl ?_)
      all_goals (refine x_neqs ([(want t n).1.1, (want t n).1.2]) ([(want t n).1.1, (want t n).1.2]) rfl (by (conv => lhs; whnf); first | done | rfl) (by (conv => lhs; whnf); first | done | rfl) rfl rfl ?_)
      all_goals (refine w_mov rfl (by (conv => lhs; whnf); first | done | rfl) ?_)
      all_goals (first | refine w_lit true rfl rfl rfl ?_ | refine w_lit false rfl rfl rfl ?_ | refine w_cases_od rfl rfl rfl (fun hg => ?_) (fun hg => ?_) | refine w_cases_o rfl rfl rfl (fun hg => ?_) (fun hg => ?_) | skip)
      all_goals (first | refine w_skip rfl ?_ | (refine w_mov rfl (by (conv => lhs; whnf); first | done | rfl) ?_))
      all_goals (first | refine w_skip rfl ?_ | (refine w_mov rfl (by (conv => lhs; whnf); first | done | rfl) ?_))
      all_goals (first | refine w_skip rfl ?_ | (refine w_neq rfl (by (conv => lhs; whnf); first | done | rfl) (by (conv => lhs; whnf); first | done | rfl) ?_))
      all_goals (first | refine w_pick_t rfl rfl (by (conv => lhs; whnf); first | done | rfl) ?_ | refine w_pick_f rfl rfl (by (conv => lhs; whnf); first | done | rfl) ?_)
      all_goals (refine w_nil ?_)
      all_goals (refine jn (by first | exact (Ag.upd rfl (Ag.upd rfl (Ag.upd rfl (Ag.upd rfl (Ag.upd rfl (Ag.upd rfl (Ag.upd rfl (Ag.upd rfl Ag.refl)))))))) | exact (by first | ((repeat (first | with_reducible exact Ag.refl | with_reducible exact Ag.ov | (with_reducible refine Ag.upd ?_ ?_; exact rfl) | with_reducible refine Ag.putn ?_ | (with_reducible refine Ag.ovs ?_ ?_; exact rfl))); done) | (repeat (first | exact Ag.refl | exact Ag.ov | (refine Ag.upd ?_ ?_; exact rfl) | refine Ag.putn ?_ | (refine Ag.ovs ?_ ?_; exact rfl))))) (by (conv => lhs; whnf); first | done | rfl) ?_)
      all_goals (exact congrArg Value.bool (by first | exact absurd rfl hg | exact decide_eq_decide.2 ⟨fun h => absurd rfl h, False.elim⟩))
    refine tq_n ?_
    refine c_cond_d (by (conv => lhs; whnf); first | done | rfl) (fun hc42 => ?_) (fun hc42 => ?_)
    · exact hc42.elim
    · refine c_skip ?_
      refine tq_n ?_
      refine c_seq ?_
      refine c_region ?_
      refine x_ldao rfl (by (conv => lhs; whnf); first | done | rfl) (by first | exact HasC.out | exact PutC.out | repeat (first | exact .here | apply Has.there | apply Put.there | apply Has.app | apply Put.app)) rfl ?_
      refine x_ldao rfl (by (conv => lhs; whnf); first | done | rfl) (by first | exact HasC.out | exact PutC.out | repeat (first | exact .here | apply Has.there | apply Put.there | apply Has.app | apply Put.app)) rfl ?_
      refine w_mov rfl (by (conv => lhs; whnf); first | done | rfl) ?_
      refine x_call (open_g (hT.sub (List.nil_sublist _))) rfl rfl rfl ?_
      rintro _ _ ⟨S20, rfl, hQ⟩
      obtain ⟨a0, a1, a2, a3, a4, a5, a6, a7, a8, rfl, hao, haT⟩ := OpR_tab hQ
      refine w_mov rfl (by (conv => lhs; whnf); first | done | rfl) ?_
      refine w_ext rfl (by (conv => lhs; whnf); first | done | rfl) (by (conv => lhs; whnf); first | done | rfl) ?_
      refine w_ext rfl (by (conv => lhs; whnf); first | done | rfl) (by (conv => lhs; whnf); first | done | rfl) ?_
      refine x_al rfl ?_
      intro b12
      refine x_stw rfl (by (conv => lhs; whnf); first | done | rfl) (by (conv => lhs; whnf); first | done | rfl) (rfl) (hao) (by first | exact HasC.out | exact PutC.out | repeat (first | exact .here | apply Has.there | apply Put.there | apply Has.app | apply Put.app)) (by exact rfl) ?_
      refine w_asg rfl (by (conv => lhs; whnf); first | done | rfl) ?_
      refine w_nil ?_
      refine tq_n ?_
      refine c_seq ?_
      refine c_region ?_
      refine x_ldao rfl (by (conv => lhs; whnf); first | done | rfl) (by first | exact HasC.out | exact PutC.out | repeat (first | exact .here | apply Has.there | apply Put.there | apply Has.app | apply Put.app)) rfl ?_
      refine x_ldao rfl (by (conv => lhs; whnf); first | done | rfl) (by first | exact HasC.out | exact PutC.out | repeat (first | exact .here | apply Has.there | apply Put.there | apply Has.app | apply Put.app)) rfl ?_
      refine w_mov rfl (by (conv => lhs; whnf); first | done | rfl) ?_
      refine x_call (openr_g (hT.sub (List.nil_sublist _))) rfl rfl rfl ?_
      rintro _ _ ⟨S21, rfl, hQ'⟩
      obtain ⟨d0, d1, d2, d3, d4, d5, d6, d7, d8, rfl, hdo, hdT⟩ := OpR_tab hQ'
      refine w_mov rfl (by (conv => lhs; whnf); first | done | rfl) ?_
      refine w_ext rfl (by (conv => lhs; whnf); first | done | rfl) (by (conv => lhs; whnf); first | done | rfl) ?_
      refine w_ext rfl (by (conv => lhs; whnf); first | done | rfl) (by (conv => lhs; whnf); first | done | rfl) ?_
      refine x_al rfl ?_
      intro b13
      refine x_stw rfl (by (conv => lhs; whnf); first | done | rfl) (by (conv => lhs; whnf); first | done | rfl) (rfl) (hdo) (by first | exact HasC.out | exact PutC.out | repeat (first | exact .here | apply Has.there | apply Put.there | apply Has.app | apply Put.app)) (by exact rfl) ?_
      refine w_asg rfl (by (conv => lhs; whnf); first | done | rfl) ?_
      refine w_nil ?_
      refine tq_n ?_
      refine c_seq ?_
      refine c_seq ?_
      refine c_region_j [57, 58, 59, 60, 61, 62, 63, 64, 65] 65 (.bool (decide (False))) ?_ (fun g12 => ?_)
      · all_goals (refine x_ldao rfl (by (conv => lhs; whnf); first | done | rfl) (by first | exact HasC.out | exact PutC.out | repeat (first | exact .here | apply Has.there | apply Put.there | apply Has.app | apply Put.app)) rfl ?_)
        all_goals (refine x_ldao rfl (by (conv => lhs; whnf); first | done | rfl) (by first | exact HasC.out | exact PutC.out | repeat (first | exact .here | apply Has.there | apply Put.there | apply Has.app | apply Put.app)) rfl ?_)
        all_goals (refine x_callp (by decide) (samer_g (haT.use (by first | exact SubL.out | repeat (first | exact List.Sublist.refl _ | exact List.nil_sublist _ | refine .cons_cons _ ?_ | refine .cons _ ?_ | refine List.Sublist.append (List.Sublist.refl _) ?_ | exact List.sublist_append_left _ _ | refine List.Sublist.trans ?_ (List.sublist_append_right _ _)))) (hdT.use (by first | exact SubL.out | repeat (first | exact List.Sublist.refl _ | exact List.nil_sublist _ | refine .cons_cons _ ?_ | refine .cons _ ?_ | refine List.Sublist.append (List.Sublist.refl _) ?_ | exact List.sublist_append_left _ _ | refine List.Sublist.trans ?_ (List.sublist_append_right _ _))))) rfl rfl rfl ?_)
        all_goals (refine w_notd rfl (by (conv => lhs; whnf); first | done | rfl) ?_)
        all_goals (refine w_mov rfl (by (conv => lhs; whnf); first | done | rfl) ?_)
        all_goals (first | refine w_lit true rfl rfl rfl ?_ | refine w_lit false rfl rfl rfl ?_ | refine w_cases_od rfl rfl rfl (fun hg => ?_) (fun hg => ?_) | refine w_cases_o rfl rfl rfl (fun hg => ?_) (fun hg => ?_) | skip)
        all_goals (first | refine w_skip rfl ?_ | (refine w_mov rfl (by (conv => lhs; whnf); first | done | rfl) ?_))
        all_goals (first | refine w_skip rfl ?_ | (refine w_mov rfl (by (conv => lhs; whnf); first | done | rfl) ?_))
        all_goals (first | refine w_skip rfl ?_ | (refine w_neq rfl (by (conv => lhs; whnf); first | done | rfl) (by (conv => lhs; whnf); first | done | rfl) ?_))
        all_goals (first | refine w_pick_t rfl rfl (by (conv => lhs; whnf); first | done | rfl) ?_ | refine w_pick_f rfl rfl (by (conv => lhs; whnf); first | done | rfl) ?_)
        all_goals (refine w_nil ?_)
        all_goals (refine jn (by first | exact (Ag.upd rfl (Ag.upd rfl (Ag.upd rfl (Ag.upd rfl (Ag.upd rfl (Ag.upd rfl (Ag.upd rfl (Ag.upd rfl (Ag.upd rfl Ag.refl))))))))) | exact (by first | ((repeat (first | with_reducible exact Ag.refl | with_reducible exact Ag.ov | (with_reducible refine Ag.upd ?_ ?_; exact rfl) | with_reducible refine Ag.putn ?_ | (with_reducible refine Ag.ovs ?_ ?_; exact rfl))); done) | (repeat (first | exact Ag.refl | exact Ag.ov | (refine Ag.upd ?_ ?_; exact rfl) | refine Ag.putn ?_ | (refine Ag.ovs ?_ ?_; exact rfl))))) (by (conv => lhs; whnf); first | done | rfl) ?_)
        all_goals (exact congrArg Value.bool (by first | exact absurd rfl hg | exact decide_eq_decide.2 ⟨fun h => absurd rfl h, False.elim⟩))
      refine tq_n ?_
      refine c_cond_d (by (conv => lhs; whnf); first | done | rfl) (fun hc65 => ?_) (fun hc65 => ?_)
      · exact hc65.elim
      · refine c_skip ?_
        refine tq_n ?_
        refine c_seq ?_
        refine c_region ?_
        refine x_ldao rfl (by (conv => lhs; whnf); first | done | rfl) (by first | exact HasC.out | exact PutC.out | repeat (first | exact .here | apply Has.there | apply Put.there | apply Has.app | apply Put.app)) rfl ?_
        refine x_ldao rfl (by (conv => lhs; whnf); first | done | rfl) (by first | exact HasC.out | exact PutC.out | repeat (first | exact .here | apply Has.there | apply Put.there | apply Has.app | apply Put.app)) rfl ?_
        refine w_mov rfl (by (conv => lhs; whnf); first | done | rfl) ?_
        refine x_call (put_g (hT.sub (List.nil_sublist _))) rfl rfl rfl ?_
        rintro _ _ ⟨S23, rfl, hP⟩
        obtain ⟨e0, e1, e2, e3, e4, e5, e6, e7, e8, rfl, heo, heT⟩ := PutR_tab hP
        refine w_mov rfl (by (conv => lhs; whnf); first | done | rfl) ?_
        refine w_ext rfl (by (conv => lhs; whnf); first | done | rfl) (by (conv => lhs; whnf); first | done | rfl) ?_
        refine w_ext rfl (by (conv => lhs; whnf); first | done | rfl) (by (conv => lhs; whnf); first | done | rfl) ?_
        refine w_ext rfl (by (conv => lhs; whnf); first | done | rfl) (by (conv => lhs; whnf); first | done | rfl) ?_
        refine x_al rfl ?_
        intro b14
        refine x_stw rfl (by (conv => lhs; whnf); first | done | rfl) (by (conv => lhs; whnf); first | done | rfl) (rfl) (heo) (by first | exact HasC.out | exact PutC.out | repeat (first | exact .here | apply Has.there | apply Put.there | apply Has.app | apply Put.app)) (by exact rfl) ?_
        refine x_stw rfl (by (conv => lhs; whnf); first | done | rfl) (by (conv => lhs; whnf); first | done | rfl) rfl rfl (by first | exact HasC.out | exact PutC.out | repeat (first | exact .here | apply Has.there | apply Put.there | apply Has.app | apply Put.app)) rfl ?_
        refine w_asg rfl (by (conv => lhs; whnf); first | done | rfl) ?_
        refine w_nil ?_
        refine tq_n ?_
        refine c_seq ?_
        refine c_region ?_
        refine x_ldao rfl (by (conv => lhs; whnf); first | done | rfl) (by first | exact HasC.out | exact PutC.out | repeat (first | exact .here | apply Has.there | apply Put.there | apply Has.app | apply Put.app)) rfl ?_
        refine x_ldao rfl (by (conv => lhs; whnf); first | done | rfl) (by first | exact HasC.out | exact PutC.out | repeat (first | exact .here | apply Has.there | apply Put.there | apply Has.app | apply Put.app)) rfl ?_
        refine w_mov rfl (by (conv => lhs; whnf); first | done | rfl) ?_
        refine x_call (putr_g (hT.sub (List.nil_sublist _))) rfl rfl rfl ?_
        rintro _ _ ⟨S24, rfl, hP'⟩
        obtain ⟨f0, f1, f2, f3, f4, f5, f6, f7, f8, rfl, hfo, hfT⟩ := PutR_tab hP'
        refine w_mov rfl (by (conv => lhs; whnf); first | done | rfl) ?_
        refine w_ext rfl (by (conv => lhs; whnf); first | done | rfl) (by (conv => lhs; whnf); first | done | rfl) ?_
        refine w_ext rfl (by (conv => lhs; whnf); first | done | rfl) (by (conv => lhs; whnf); first | done | rfl) ?_
        refine w_ext rfl (by (conv => lhs; whnf); first | done | rfl) (by (conv => lhs; whnf); first | done | rfl) ?_
        refine x_al rfl ?_
        intro b15
        refine x_stw rfl (by (conv => lhs; whnf); first | done | rfl) (by (conv => lhs; whnf); first | done | rfl) (rfl) (hfo) (by first | exact HasC.out | exact PutC.out | repeat (first | exact .here | apply Has.there | apply Put.there | apply Has.app | apply Put.app)) (by exact rfl) ?_
        refine x_stw rfl (by (conv => lhs; whnf); first | done | rfl) (by (conv => lhs; whnf); first | done | rfl) rfl rfl (by first | exact HasC.out | exact PutC.out | repeat (first | exact .here | apply Has.there | apply Put.there | apply Has.app | apply Put.app)) rfl ?_
        refine w_asg rfl (by (conv => lhs; whnf); first | done | rfl) ?_
        refine w_nil ?_
        refine tq_n ?_
        refine c_seq ?_
        refine c_seq ?_
        refine c_region_j [82, 83, 84, 85, 86, 87, 88, 89, 90, 91, 92, 93, 94, 95] 95 (.bool (decide (False))) ?_ (fun g16 => ?_)
        · all_goals (refine x_ldao rfl (by (conv => lhs; whnf); first | done | rfl) (by first | exact HasC.out | exact PutC.out | repeat (first | exact .here | apply Has.there | apply Put.there | apply Has.app | apply Put.app)) rfl ?_)
          all_goals (refine x_ldao rfl (by (conv => lhs; whnf); first | done | rfl) (by first | exact HasC.out | exact PutC.out | repeat (first | exact .here | apply Has.there | apply Put.there | apply Has.app | apply Put.app)) rfl ?_)
          all_goals (refine x_callp (by decide) (samer_g (heT.use (by first | exact SubL.out | repeat (first | exact List.Sublist.refl _ | exact List.nil_sublist _ | refine .cons_cons _ ?_ | refine .cons _ ?_ | refine List.Sublist.append (List.Sublist.refl _) ?_ | exact List.sublist_append_left _ _ | refine List.Sublist.trans ?_ (List.sublist_append_right _ _)))) (hfT.use (by first | exact SubL.out | repeat (first | exact List.Sublist.refl _ | exact List.nil_sublist _ | refine .cons_cons _ ?_ | refine .cons _ ?_ | refine List.Sublist.append (List.Sublist.refl _) ?_ | exact List.sublist_append_left _ _ | refine List.Sublist.trans ?_ (List.sublist_append_right _ _))))) rfl rfl rfl ?_)
          all_goals (refine w_notd rfl (by (conv => lhs; whnf); first | done | rfl) ?_)
          all_goals (refine w_mov rfl (by (conv => lhs; whnf); first | done | rfl) ?_)
          all_goals (first | refine w_lit true rfl rfl rfl ?_ | refine w_lit false rfl rfl rfl ?_ | refine w_cases_od rfl rfl rfl (fun hg => ?_) (fun hg => ?_) | refine w_cases_o rfl rfl rfl (fun hg => ?_) (fun hg => ?_) | skip)
          all_goals (first | refine w_skip rfl ?_ | (refine x_ldao rfl (by (conv => lhs; whnf); first | done | rfl) (by first | exact HasC.out | exact PutC.out | repeat (first | exact .here | apply Has.there | apply Put.there | apply Has.app | apply Put.app)) rfl ?_))
          all_goals (first | refine w_skip rfl ?_ | (refine x_ldao rfl (by (conv => lhs; whnf); first | done | rfl) (by first | exact HasC.out | exact PutC.out | repeat (first | exact .here | apply Has.there | apply Put.there | apply Has.app | apply Put.app)) rfl ?_))
          all_goals (first | refine w_skip rfl ?_ | (refine x_neqs ([sV 0 (fun y => y.2.1) (put t k n), sV 0 (fun y => y.2.2) (put t k n)]) ([sV 0 (fun y => y.2.1) (put t k n), sV 0 (fun y => y.2.2) (put t k n)]) rfl (by (conv => lhs; whnf); first | done | rfl) (by (conv => lhs; whnf); first | done | rfl) rfl rfl ?_))
          all_goals (first | refine w_pick_t rfl rfl (by (conv => lhs; whnf); first | done | rfl) ?_ | refine w_pick_f rfl rfl (by (conv => lhs; whnf); first | done | rfl) ?_)
          all_goals (refine w_mov rfl (by (conv => lhs; whnf); first | done | rfl) ?_)
          all_goals (first | refine w_lit true rfl rfl rfl ?_ | refine w_lit false rfl rfl rfl ?_ | refine w_cases_od rfl rfl rfl (fun hg => ?_) (fun hg => ?_) | refine w_cases_o rfl rfl rfl (fun hg => ?_) (fun hg => ?_) | skip)
          all_goals (first | refine w_skip rfl ?_ | (refine w_mov rfl (by (conv => lhs; whnf); first | done | rfl) ?_))
          all_goals (first | refine w_skip rfl ?_ | (refine w_mov rfl (by (conv => lhs; whnf); first | done | rfl) ?_))
          all_goals (first | refine w_skip rfl ?_ | (refine w_neq rfl (by (conv => lhs; whnf); first | done | rfl) (by (conv => lhs; whnf); first | done | rfl) ?_))
          all_goals (first | refine w_pick_t rfl rfl (by (conv => lhs; whnf); first | done | rfl) ?_ | refine w_pick_f rfl rfl (by (conv => lhs; whnf); first | done | rfl) ?_)
          all_goals (refine w_nil ?_)
          all_goals (refine jn (by first | exact (Ag.upd rfl (Ag.upd rfl (Ag.upd rfl (Ag.upd rfl (Ag.upd rfl (Ag.upd rfl (Ag.upd rfl (Ag.upd rfl (Ag.upd rfl (Ag.upd rfl (Ag.upd rfl (Ag.upd rfl (Ag.upd rfl (Ag.upd rfl Ag.refl)))))))))))))) | exact (by first | ((repeat (first | with_reducible exact Ag.refl | with_reducible exact Ag.ov | (with_reducible refine Ag.upd ?_ ?_; exact rfl) | with_reducible refine Ag.putn ?_ | (with_reducible refine Ag.ovs ?_ ?_; exact rfl))); done) | (repeat (first | exact Ag.refl | exact Ag.ov | (refine Ag.upd ?_ ?_; exact rfl) | refine Ag.putn ?_ | (refine Ag.ovs ?_ ?_; exact rfl))))) (by (conv => lhs; whnf); first | done | rfl) ?_)
          all_goals (exact congrArg Value.bool (by first | exact absurd rfl hg | exact decide_eq_decide.2 ⟨fun h => absurd rfl h, False.elim⟩))
        refine tq_n ?_
        refine c_cond_d (by (conv => lhs; whnf); first | done | rfl) (fun hc95 => ?_) (fun hc95 => ?_)
        · exact hc95.elim
        · refine c_skip ?_
          refine tq_n ?_
          refine c_seq ?_
          refine c_region ?_
          refine x_ldao rfl (by (conv => lhs; whnf); first | done | rfl) (by first | exact HasC.out | exact PutC.out | repeat (first | exact .here | apply Has.there | apply Put.there | apply Has.app | apply Put.app)) rfl ?_
          refine x_ldao rfl (by (conv => lhs; whnf); first | done | rfl) (by first | exact HasC.out | exact PutC.out | repeat (first | exact .here | apply Has.there | apply Put.there | apply Has.app | apply Put.app)) rfl ?_
          refine x_call (skip_g (hT.sub (List.nil_sublist _))) rfl rfl rfl ?_
          rintro _ _ ⟨S25, rfl, hR⟩
          obtain ⟨r0, r1, r2, r3, r4, r5, r6, r7, r8, rfl, hro, hrT⟩ := OpR_tab hR
          refine w_mov rfl (by (conv => lhs; whnf); first | done | rfl) ?_
          refine w_ext rfl (by (conv => lhs; whnf); first | done | rfl) (by (conv => lhs; whnf); first | done | rfl) ?_
          refine w_ext rfl (by (conv => lhs; whnf); first | done | rfl) (by (conv => lhs; whnf); first | done | rfl) ?_
          refine x_stw rfl (by (conv => lhs; whnf); first | done | rfl) (by (conv => lhs; whnf); first | done | rfl) (rfl) (hro) (by first | exact HasC.out | exact PutC.out | repeat (first | exact .here | apply Has.there | apply Put.there | apply Has.app | apply Put.app)) (by exact rfl) ?_
          refine w_asg rfl (by (conv => lhs; whnf); first | done | rfl) ?_
          refine w_nil ?_
          refine tq_n ?_
          refine c_seq ?_
          refine c_region ?_
          refine x_ldao rfl (by (conv => lhs; whnf); first | done | rfl) (by first | exact HasC.out | exact PutC.out | repeat (first | exact .here | apply Has.there | apply Put.there | apply Has.app | apply Put.app)) rfl ?_
          refine x_ldao rfl (by (conv => lhs; whnf); first | done | rfl) (by first | exact HasC.out | exact PutC.out | repeat (first | exact .here | apply Has.there | apply Put.there | apply Has.app | apply Put.app)) rfl ?_
          refine x_call (skipr_g (hT.sub (List.nil_sublist _))) rfl rfl rfl ?_
          rintro _ _ ⟨S26, rfl, hR'⟩
          obtain ⟨s0, s1, s2, s3, s4, s5, s6, s7, s8, rfl, hso, hsT⟩ := OpR_tab hR'
          refine w_mov rfl (by (conv => lhs; whnf); first | done | rfl) ?_
          refine w_ext rfl (by (conv => lhs; whnf); first | done | rfl) (by (conv => lhs; whnf); first | done | rfl) ?_
          refine w_ext rfl (by (conv => lhs; whnf); first | done | rfl) (by (conv => lhs; whnf); first | done | rfl) ?_
          refine x_stw rfl (by (conv => lhs; whnf); first | done | rfl) (by (conv => lhs; whnf); first | done | rfl) (rfl) (hso) (by first | exact HasC.out | exact PutC.out | repeat (first | exact .here | apply Has.there | apply Put.there | apply Has.app | apply Put.app)) (by exact rfl) ?_
          refine w_asg rfl (by (conv => lhs; whnf); first | done | rfl) ?_
          refine w_nil ?_
          refine tq_n ?_
          refine c_seq ?_
          refine c_region_j [108, 109, 110, 111, 112, 113, 114, 115, 116, 117, 118, 119, 120, 6] 6 (.bool (decide (True))) ?_ (fun g20 => ?_)
          · all_goals (refine x_ldao rfl (by (conv => lhs; whnf); first | done | rfl) (by first | exact HasC.out | exact PutC.out | repeat (first | exact .here | apply Has.there | apply Put.there | apply Has.app | apply Put.app)) rfl ?_)
            all_goals (refine x_ldao rfl (by (conv => lhs; whnf); first | done | rfl) (by first | exact HasC.out | exact PutC.out | repeat (first | exact .here | apply Has.there | apply Put.there | apply Has.app | apply Put.app)) rfl ?_)
            all_goals (refine x_callp (by decide) (samer_g (hrT.use (by first | exact SubL.out | repeat (first | exact List.Sublist.refl _ | exact List.nil_sublist _ | refine .cons_cons _ ?_ | refine .cons _ ?_ | refine List.Sublist.append (List.Sublist.refl _) ?_ | exact List.sublist_append_left _ _ | refine List.Sublist.trans ?_ (List.sublist_append_right _ _)))) (hsT.use (by first | exact SubL.out | repeat (first | exact List.Sublist.refl _ | exact List.nil_sublist _ | refine .cons_cons _ ?_ | refine .cons _ ?_ | refine List.Sublist.append (List.Sublist.refl _) ?_ | exact List.sublist_append_left _ _ | refine List.Sublist.trans ?_ (List.sublist_append_right _ _))))) rfl rfl rfl ?_)
            all_goals (refine w_mov rfl (by (conv => lhs; whnf); first | done | rfl) ?_)
            all_goals (first | refine w_lit true rfl rfl rfl ?_ | refine w_lit false rfl rfl rfl ?_ | refine w_cases_od rfl rfl rfl (fun hg => ?_) (fun hg => ?_) | refine w_cases_o rfl rfl rfl (fun hg => ?_) (fun hg => ?_) | skip)
            all_goals (first | refine w_skip rfl ?_ | (refine w_mov rfl (by (conv => lhs; whnf); first | done | rfl) ?_))
            all_goals (first | refine w_skip rfl ?_ | (refine w_mov rfl (by (conv => lhs; whnf); first | done | rfl) ?_))
            all_goals (first | refine w_skip rfl ?_ | (refine w_eql rfl (by (conv => lhs; whnf); first | done | rfl) (by (conv => lhs; whnf); first | done | rfl) ?_))
            all_goals (first | refine w_pick_t rfl rfl (by (conv => lhs; whnf); first | done | rfl) ?_ | refine w_pick_f rfl rfl (by (conv => lhs; whnf); first | done | rfl) ?_)
            all_goals (refine w_mov rfl (by (conv => lhs; whnf); first | done | rfl) ?_)
            all_goals (first | refine w_lit true rfl rfl rfl ?_ | refine w_lit false rfl rfl rfl ?_ | refine w_cases_od rfl rfl rfl (fun hg => ?_) (fun hg => ?_) | refine w_cases_o rfl rfl rfl (fun hg => ?_) (fun hg => ?_) | skip)
            all_goals (first | refine w_skip rfl ?_ | (refine x_ldao rfl (by (conv => lhs; whnf); first | done | rfl) (by first | exact HasC.out | exact PutC.out | repeat (first | exact .here | apply Has.there | apply Put.there | apply Has.app | apply Put.app)) rfl ?_))
            all_goals (first | refine w_skip rfl ?_ | (refine x_ldao rfl (by (conv => lhs; whnf); first | done | rfl) (by first | exact HasC.out | exact PutC.out | repeat (first | exact .here | apply Has.there | apply Put.there | apply Has.app | apply Put.app)) rfl ?_))
            all_goals (first | refine w_skip rfl ?_ | (refine x_callp (by decide) (samer_g (hT.sub (List.nil_sublist _)) (hqT.use (by first | exact SubL.out | repeat (first | exact List.Sublist.refl _ | exact List.nil_sublist _ | refine .cons_cons _ ?_ | refine .cons _ ?_ | refine List.Sublist.append (List.Sublist.refl _) ?_ | exact List.sublist_append_left _ _ | refine List.Sublist.trans ?_ (List.sublist_append_right _ _))))) rfl rfl rfl ?_))
            all_goals (first | refine w_pick_t rfl rfl (by (conv => lhs; whnf); first | done | rfl) ?_ | refine w_pick_f rfl rfl (by (conv => lhs; whnf); first | done | rfl) ?_)
            all_goals (refine w_asg rfl (by (conv => lhs; whnf); first | done | rfl) ?_)
            all_goals (refine w_nil ?_)
            all_goals (refine jn (by first | exact (Ag.upd rfl (Ag.upd rfl (Ag.upd rfl (Ag.upd rfl (Ag.upd rfl (Ag.upd rfl (Ag.upd rfl (Ag.upd rfl (Ag.upd rfl (Ag.upd rfl (Ag.upd rfl (Ag.upd rfl (Ag.upd rfl (Ag.upd rfl Ag.refl)))))))))))))) | exact (by first | ((repeat (first | with_reducible exact Ag.refl | with_reducible exact Ag.ov | (with_reducible refine Ag.upd ?_ ?_; exact rfl) | with_reducible refine Ag.putn ?_ | (with_reducible refine Ag.ovs ?_ ?_; exact rfl))); done) | (repeat (first | exact Ag.refl | exact Ag.ov | (refine Ag.upd ?_ ?_; exact rfl) | refine Ag.putn ?_ | (refine Ag.ovs ?_ ?_; exact rfl))))) (by (conv => lhs; whnf); first | done | rfl) ?_)
            all_goals (exact congrArg Value.bool (by first | exact absurd rfl hg | exact (decide_eq_true rfl).trans (decide_eq_true trivial).symm))
          refine tq_n ?_
          refine c_ret ?_
          exact rq_r (ra_t (by (conv => lhs; whnf); first | done | rfl) .nil) (List.nil_sublist _) (⟨rfl, rfl⟩)
end
end Go.Proofs.Ytnmhhelcaibdoaa.Pl
