/- The reference's list, Check, may. -/
import Derived.Test.YtnmhhelcaibdoaaPe
import Derived.Test.YtnmhhelcaibdoaaPt
namespace Go.Proofs.Ytnmhhelcaibdoaa.Pl
open Go Go.RowKit Sl
set_option linter.unusedVariables false
set_option linter.unusedSimpArgs false
def sqL (t : Tb) : List Int := if 0 ≤ t.sp then [t.sp] else []
/-- The blocks in use, as the reference lists them. -/
def lst (t : Tb) : List Int := nn t.da ++ sqL t ++ t.lo.map Lg.ph
theorem lst_perm {t : Tb} : (lst t).Perm (usedL t) := by
  unfold lst usedL sqL
  refine List.Perm.append_right _ ?_
  rw [nn_cons]
  split
  · exact List.perm_append_comm
  · rw [List.append_nil]
theorem mem_lst {t : Tb} {x : Int} : x ∈ lst t ↔ x ∈ usedL t := lst_perm.mem_iff
section
variable {w0 : World} {L : Own}
theorem list_g {v : Value} {t : Tb} (h : TabR w0 L v t) (hb1 : t.da.length ≤ 1048576) (hb2 : t.lo.length ≤ 1048576) : Gives Try.prog w0 L 101 [v] (fun v' L' => ∃ S, L' = S ++ L ∧ OSl 3 1 v' ((lst t).map (Value.int .i64)) (lst t).length S) := by
  refine enterB (R := fun v' S => OSl 3 1 v' ((lst t).map (Value.int .i64)) (lst t).length S) Try.func101 rfl Try.ntmps101 Try.results101 (Nat.le_of_ble_eq_true rfl) fun w hM => ?_
  obtain ⟨vd, vh, vl, rfl, hd, hh, hlo⟩ := ((h).at hM).ex; obtain ⟨Ad, cd, rfl, hdc, hdl, hdA, hdR⟩ := id hd.ex; obtain ⟨Ah, ch, rfl, hhc, hhl, hhA, hhR⟩ := id hh.ex; obtain ⟨Al, cl, rfl, hlc, hll, hlA, hlR⟩ := LogR.opn hlo
  clear hM
  have hnl := nn_len t.da
  refine c_seq ?_
  refine c_region ?_
  refine x_boxa rfl (by (conv => lhs; whnf); first | done | rfl) ?_
  intro b1
  refine w_asg rfl (by (conv => lhs; whnf); first | done | rfl) ?_
  refine w_nil ?_
  refine tq_n ?_
  refine c_seq ?_
  refine c_region ?_
  refine w_asg rfl (by (conv => lhs; whnf); first | done | rfl) ?_
  refine w_nil ?_
  refine tq_n ?_
  refine c_seq ?_
  refine c_seq ?_
  refine c_region ?_
  refine w_asg rfl (by (conv => lhs; whnf); first | done | rfl) ?_
  refine w_nil ?_
  refine tq_n ?_
  refine c_block ?_
  refine c_loop_ov [6, 7, 8, 9, 10, 13, 14, 15, 16, 17, 18, 19, 20, 21, 22, 23, 24, 25, 26, 3, 11, 12, 4] (fun m s L => ∃ (k : Nat) (v3 : Value) (S3 : Own), k ≤ t.da.length ∧ OSl 3 1 v3 ((nn (t.da.take k)).map (Value.int .i64)) (nn (t.da.take k)).length S3 ∧ m = t.da.length - k ∧ s = [(3, v3), (4, .int .i64 k)] ∧ L = S3 ++ [(b1, B 43 (cT t Ad cd Ah ch Al cl))]) (t.da.length) [(3, .slice none 0 0), (4, .int .i64 (0 : Nat))] (by repeat (first | exact .nil | refine .cons rfl ?_)) (by first | exact SubL.out | repeat (first | exact List.Sublist.refl _ | exact List.nil_sublist _ | refine .cons_cons _ ?_ | refine .cons _ ?_ | refine List.Sublist.append (List.Sublist.refl _) ?_ | exact List.sublist_append_left _ _ | refine List.Sublist.trans ?_ (List.sublist_append_right _ _))) (⟨0, _, [], by omega, .nil, by omega, rfl, rfl⟩) ?_
  rintro mI sI LI gL0 ⟨k, v3, S3, hk, hS3, rfl, rfl, rfl⟩
  refine c_seq ?_
  refine c_seq ?_
  refine c_region ?_
  refine w_mov rfl (by (conv => lhs; whnf); first | done | rfl) ?_
  refine x_fa rfl (by (conv => lhs; whnf); first | done | rfl) ?_
  refine x_ldo rfl (by (conv => lhs; whnf); first | done | rfl) (by first | exact HasC.out | exact PutC.out | repeat (first | exact .here | apply Has.there | apply Put.there | apply Has.app | apply Put.app)) (by (conv => lhs; whnf); first | done | rfl) ?_
  refine x_len rfl (by (conv => lhs; whnf); first | done | rfl) ?_
  refine w_lss rfl (by (conv => lhs; whnf); first | done | rfl) (by (conv => lhs; whnf); first | done | rfl) ?_
  refine w_nil ?_
  refine tq_n ?_
  refine c_cond_d (by (conv => lhs; whnf); first | done | rfl) (fun hc10 => ?_) (fun hc10 => ?_)
  · have hlt : k < t.da.length := by omega
    refine c_skip ?_
    refine tq_n ?_
    refine c_seq ?_
    refine c_block ?_
    refine c_seq ?_
    refine c_region ?_
    refine x_fa rfl (by (conv => lhs; whnf); first | done | rfl) ?_
    refine x_ldo rfl (by (conv => lhs; whnf); first | done | rfl) (by first | exact HasC.out | exact PutC.out | repeat (first | exact .here | apply Has.there | apply Put.there | apply Has.app | apply Put.app)) (by (conv => lhs; whnf); first | done | rfl) ?_
    refine w_mov rfl (by (conv => lhs; whnf); first | done | rfl) ?_
    refine x_ixA rfl (by (conv => lhs; whnf); first | done | rfl) (by (conv => lhs; whnf); first | done | rfl) (hdA (ne_of_lt hlt)) (by omega) (by omega) ?_
    refine x_ld rfl (by (conv => lhs; whnf); first | done | rfl) (rdI (j := (k : Int)) hdR (getN hlt)) ?_
    refine w_geq rfl (by (conv => lhs; whnf); first | done | rfl) (by (conv => lhs; whnf); first | done | rfl) ?_
    refine w_nil ?_
    refine tq_n ?_
    refine c_cond_d (by (conv => lhs; whnf); first | done | rfl) (fun hc18 => ?_) (fun hc18 => ?_)
    · refine c_region ?_
      refine w_mov rfl (by (conv => lhs; whnf); first | done | rfl) ?_
      refine x_fa rfl (by (conv => lhs; whnf); first | done | rfl) ?_
      refine x_ldo rfl (by (conv => lhs; whnf); first | done | rfl) (by first | exact HasC.out | exact PutC.out | repeat (first | exact .here | apply Has.there | apply Put.there | apply Has.app | apply Put.app)) (by (conv => lhs; whnf); first | done | rfl) ?_
      refine w_mov rfl (by (conv => lhs; whnf); first | done | rfl) ?_
      refine x_ixA rfl (by (conv => lhs; whnf); first | done | rfl) (by (conv => lhs; whnf); first | done | rfl) (hdA (ne_of_lt hlt)) (by omega) (by omega) ?_
      refine x_ld rfl (by (conv => lhs; whnf); first | done | rfl) (rdI (j := (k : Int)) hdR (getN hlt)) ?_
      refine x_bs1 rfl (by (conv => lhs; whnf); first | done | rfl) rfl rfl rfl rfl ?_
      intro b25
      refine x_app rfl (by (conv => lhs; whnf); first | done | rfl) (by (conv => lhs; whnf); first | done | rfl) (perm1) (hS3) (xs_new (by first | exact HasC.out | exact PutC.out | repeat (first | exact .here | apply Has.there | apply Put.there | apply Has.app | apply Put.app))) (rfl) (rfl) (by have := nn_len (t.da.take k); simp only [List.length_take] at *; omega) (by decide) ?_
      rintro v4 S4 hS4'
      have hS4 := nn_snoc_osl hc18 hS4'
      rw [← take_succ' hlt] at hS4
      refine w_asg rfl (by (conv => lhs; whnf); first | done | rfl) ?_
      refine w_nil ?_
      refine bq_n ?_
      refine tq_n ?_
      refine c_region ?_
      refine w_mov rfl (by (conv => lhs; whnf); first | done | rfl) ?_
      refine w_add rfl (by (conv => lhs; whnf); first | done | rfl) (by (conv => lhs; whnf); first | done | rfl) (by omega) ?_
      refine w_asg rfl (by (conv => lhs; whnf); first | done | rfl) ?_
      refine w_nil ?_
      refine tq_n ?_
      exact ⟨(by first | ((repeat (first | with_reducible exact Ag.refl | with_reducible exact Ag.ov | (with_reducible refine Ag.upd ?_ ?_; exact rfl) | with_reducible refine Ag.putn ?_ | (with_reducible refine Ag.ovs ?_ ?_; exact rfl))); done) | (repeat (first | exact Ag.refl | exact Ag.ov | (refine Ag.upd ?_ ?_; exact rfl) | refine Ag.putn ?_ | (refine Ag.ovs ?_ ?_; exact rfl)))), t.da.length - (k + 1), [(3, _), (4, .int .i64 ((k + 1 : Nat) : Int))], _, by omega, (by first | exact SubL.out | repeat (first | exact List.Sublist.refl _ | exact List.nil_sublist _ | refine .cons_cons _ ?_ | refine .cons _ ?_ | refine List.Sublist.append (List.Sublist.refl _) ?_ | exact List.sublist_append_left _ _ | refine List.Sublist.trans ?_ (List.sublist_append_right _ _))), (by repeat (first | exact .nil | refine .cons rfl ?_)), ⟨k + 1, _, _, by omega, hS4, rfl, rfl, rfl⟩⟩
    · have hS4 := nn_skip_osl hc18 hS3
      rw [← take_succ' hlt] at hS4
      refine c_skip ?_
      refine bq_n ?_
      refine tq_n ?_
      refine c_region ?_
      refine w_mov rfl (by (conv => lhs; whnf); first | done | rfl) ?_
      refine w_add rfl (by (conv => lhs; whnf); first | done | rfl) (by (conv => lhs; whnf); first | done | rfl) (by omega) ?_
      refine w_asg rfl (by (conv => lhs; whnf); first | done | rfl) ?_
      refine w_nil ?_
      refine tq_n ?_
      exact ⟨(by first | ((repeat (first | with_reducible exact Ag.refl | with_reducible exact Ag.ov | (with_reducible refine Ag.upd ?_ ?_; exact rfl) | with_reducible refine Ag.putn ?_ | (with_reducible refine Ag.ovs ?_ ?_; exact rfl))); done) | (repeat (first | exact Ag.refl | exact Ag.ov | (refine Ag.upd ?_ ?_; exact rfl) | refine Ag.putn ?_ | (refine Ag.ovs ?_ ?_; exact rfl)))), t.da.length - (k + 1), [(3, _), (4, .int .i64 ((k + 1 : Nat) : Int))], _, by omega, (by first | exact SubL.out | repeat (first | exact List.Sublist.refl _ | exact List.nil_sublist _ | refine .cons_cons _ ?_ | refine .cons _ ?_ | refine List.Sublist.append (List.Sublist.refl _) ?_ | exact List.sublist_append_left _ _ | refine List.Sublist.trans ?_ (List.sublist_append_right _ _))), (by repeat (first | exact .nil | refine .cons rfl ?_)), ⟨k + 1, _, _, by omega, hS4, rfl, rfl, rfl⟩⟩
  · have hkk : k = t.da.length := (by omega)
    rw [hkk, List.take_length] at hS3
    refine c_exit ?_
    refine tq_e ?_
    refine tq_e ?_
    refine bq_e ?_
    refine tq_n ?_
    refine c_mid_ov [27, 28, 29, 30, 31, 32, 33, 34, 35, 36, 3] (fun s L => ∃ (v3 : Value) (S3 : Own), s = [(3, v3)] ∧ OSl 3 1 v3 ((nn t.da ++ sqL t).map (Value.int .i64)) (nn t.da ++ sqL t).length S3 ∧ L = S3 ++ [(b1, B 43 (cT t Ad cd Ah ch Al cl))]) ?_ ?_
    · refine c_seq ?_
      refine c_region ?_
      refine x_fa rfl (by (conv => lhs; whnf); first | done | rfl) ?_
      refine x_fa rfl (by (conv => lhs; whnf); first | done | rfl) ?_
      refine x_ldo rfl (by (conv => lhs; whnf); first | done | rfl) (by first | exact HasC.out | exact PutC.out | repeat (first | exact .here | apply Has.there | apply Put.there | apply Has.app | apply Put.app)) (by (conv => lhs; whnf); first | done | rfl) ?_
      refine w_geq rfl (by (conv => lhs; whnf); first | done | rfl) (by (conv => lhs; whnf); first | done | rfl) ?_
      refine w_nil ?_
      refine tq_n ?_
      refine c_cond_d (by (conv => lhs; whnf); first | done | rfl) (fun hc30 => ?_) (fun hc30 => ?_)
      · refine c_region ?_
        refine w_mov rfl (by (conv => lhs; whnf); first | done | rfl) ?_
        refine x_fa rfl (by (conv => lhs; whnf); first | done | rfl) ?_
        refine x_fa rfl (by (conv => lhs; whnf); first | done | rfl) ?_
        refine x_ldo rfl (by (conv => lhs; whnf); first | done | rfl) (by first | exact HasC.out | exact PutC.out | repeat (first | exact .here | apply Has.there | apply Put.there | apply Has.app | apply Put.app)) (by (conv => lhs; whnf); first | done | rfl) ?_
        refine x_bs1 rfl (by (conv => lhs; whnf); first | done | rfl) rfl rfl rfl rfl ?_
        intro b35
        refine x_app rfl (by (conv => lhs; whnf); first | done | rfl) (by (conv => lhs; whnf); first | done | rfl) (perm1) (hS3) (xs_new (by first | exact HasC.out | exact PutC.out | repeat (first | exact .here | apply Has.there | apply Put.there | apply Has.app | apply Put.app))) (rfl) (rfl) (by omega) (by decide) ?_
        rintro v6 S6 hS6'
        have hS6 : OSl 3 1 v6 ((nn t.da ++ sqL t).map (Value.int .i64)) (nn t.da ++ sqL t).length S6 := by unfold sqL; rw [if_pos hc30]; simpa using hS6'
        refine w_asg rfl (by (conv => lhs; whnf); first | done | rfl) ?_
        refine w_nil ?_
        refine tq_n ?_
        exact ⟨(by first | ((repeat (first | with_reducible exact Ag.refl | with_reducible exact Ag.ov | (with_reducible refine Ag.upd ?_ ?_; exact rfl) | with_reducible refine Ag.putn ?_ | (with_reducible refine Ag.ovs ?_ ?_; exact rfl))); done) | (repeat (first | exact Ag.refl | exact Ag.ov | (refine Ag.upd ?_ ?_; exact rfl) | refine Ag.putn ?_ | (refine Ag.ovs ?_ ?_; exact rfl)))), [(3, _)], _, (by first | exact SubL.out | repeat (first | exact List.Sublist.refl _ | exact List.nil_sublist _ | refine .cons_cons _ ?_ | refine .cons _ ?_ | refine List.Sublist.append (List.Sublist.refl _) ?_ | exact List.sublist_append_left _ _ | refine List.Sublist.trans ?_ (List.sublist_append_right _ _))), (by repeat (first | exact .nil | refine .cons rfl ?_)), ⟨_, _, rfl, hS6, rfl⟩⟩
      · have hS6 : OSl 3 1 v3 ((nn t.da ++ sqL t).map (Value.int .i64)) (nn t.da ++ sqL t).length S3 := by unfold sqL; rw [if_neg hc30, List.append_nil]; exact hS3
        refine c_skip ?_
        refine tq_n ?_
        exact ⟨(by first | ((repeat (first | with_reducible exact Ag.refl | with_reducible exact Ag.ov | (with_reducible refine Ag.upd ?_ ?_; exact rfl) | with_reducible refine Ag.putn ?_ | (with_reducible refine Ag.ovs ?_ ?_; exact rfl))); done) | (repeat (first | exact Ag.refl | exact Ag.ov | (refine Ag.upd ?_ ?_; exact rfl) | refine Ag.putn ?_ | (refine Ag.ovs ?_ ?_; exact rfl)))), [(3, _)], _, (by first | exact SubL.out | repeat (first | exact List.Sublist.refl _ | exact List.nil_sublist _ | refine .cons_cons _ ?_ | refine .cons _ ?_ | refine List.Sublist.append (List.Sublist.refl _) ?_ | exact List.sublist_append_left _ _ | refine List.Sublist.trans ?_ (List.sublist_append_right _ _))), (by repeat (first | exact .nil | refine .cons rfl ?_)), ⟨_, _, rfl, hS6, rfl⟩⟩
    · rintro sM LM gM ⟨v5, S5, rfl, hS5, rfl⟩
      refine c_seq ?_
      refine c_seq ?_
      have hsq : (sqL t).length ≤ 1 := by unfold sqL; split <;> simp
      refine c_region ?_
      refine w_asg rfl (by (conv => lhs; whnf); first | done | rfl) ?_
      refine w_nil ?_
      refine tq_n ?_
      refine c_block ?_
      refine c_loop_ov [37, 38, 39, 40, 41, 44, 45, 46, 47, 48, 49, 50, 51, 52, 3, 42, 43, 5] (fun m s L => ∃ (k : Nat) (v3 : Value) (S3 : Own), k ≤ t.lo.length ∧ OSl 3 1 v3 (((nn t.da ++ sqL t) ++ (t.lo.take k).map Lg.ph).map (Value.int .i64)) ((nn t.da ++ sqL t) ++ (t.lo.take k).map Lg.ph).length S3 ∧ m = t.lo.length - k ∧ s = [(3, v3), (5, .int .i64 k)] ∧ L = S3 ++ [(b1, B 43 (cT t Ad cd Ah ch Al cl))]) (t.lo.length) [(3, v5), (5, .int .i64 (0 : Nat))] (by repeat (first | exact .nil | refine .cons rfl ?_)) (by first | exact SubL.out | repeat (first | exact List.Sublist.refl _ | exact List.nil_sublist _ | refine .cons_cons _ ?_ | refine .cons _ ?_ | refine List.Sublist.append (List.Sublist.refl _) ?_ | exact List.sublist_append_left _ _ | refine List.Sublist.trans ?_ (List.sublist_append_right _ _))) (⟨0, v5, S5, by omega, by simpa using hS5, by omega, rfl, rfl⟩) ?_
      rintro mI sI LI gL1 ⟨k, v3, S3, hk, hS3, rfl, rfl, rfl⟩
      refine c_seq ?_
      refine c_seq ?_
      refine c_region ?_
      refine w_mov rfl (by (conv => lhs; whnf); first | done | rfl) ?_
      refine x_fa rfl (by (conv => lhs; whnf); first | done | rfl) ?_
      refine x_ldo rfl (by (conv => lhs; whnf); first | done | rfl) (by first | exact HasC.out | exact PutC.out | repeat (first | exact .here | apply Has.there | apply Put.there | apply Has.app | apply Put.app)) (by (conv => lhs; whnf); first | done | rfl) ?_
      refine x_len rfl (by (conv => lhs; whnf); first | done | rfl) ?_
      refine w_lss rfl (by (conv => lhs; whnf); first | done | rfl) (by (conv => lhs; whnf); first | done | rfl) ?_
      refine w_nil ?_
      refine tq_n ?_
      refine c_cond_d (by (conv => lhs; whnf); first | done | rfl) (fun hc41 => ?_) (fun hc41 => ?_)
      · have hlt : k < t.lo.length := by omega
        obtain ⟨Ap, cp, hpc, hpl, hpA, hpR, hpI, hph, hpv⟩ := hlR k _ (getN hlt)
        refine c_skip ?_
        refine tq_n ?_
        refine c_seq ?_
        refine c_block ?_
        refine c_region ?_
        refine w_mov rfl (by (conv => lhs; whnf); first | done | rfl) ?_
        refine x_fa rfl (by (conv => lhs; whnf); first | done | rfl) ?_
        refine x_ldo rfl (by (conv => lhs; whnf); first | done | rfl) (by first | exact HasC.out | exact PutC.out | repeat (first | exact .here | apply Has.there | apply Put.there | apply Has.app | apply Put.app)) (by (conv => lhs; whnf); first | done | rfl) ?_
        refine w_mov rfl (by (conv => lhs; whnf); first | done | rfl) ?_
        refine x_ixA rfl (by (conv => lhs; whnf); first | done | rfl) (by (conv => lhs; whnf); first | done | rfl) (hlA (ne_of_lt hlt)) (by omega) (by omega) ?_
        refine x_fa rfl (by (conv => lhs; whnf); first | done | rfl) ?_
        refine x_ld rfl (by (conv => lhs; whnf); first | done | rfl) (hph.sub (List.nil_sublist _)) ?_
        refine x_bs1 rfl (by (conv => lhs; whnf); first | done | rfl) rfl rfl rfl rfl ?_
        intro b51
        refine x_app rfl (by (conv => lhs; whnf); first | done | rfl) (by (conv => lhs; whnf); first | done | rfl) (perm1) (hS3) (xs_new (by first | exact HasC.out | exact PutC.out | repeat (first | exact .here | apply Has.there | apply Put.there | apply Has.app | apply Put.app))) (rfl) (rfl) (by simp only [List.length_append, List.length_map, List.length_take] at *; omega) (by decide) ?_
        rintro v7 S7 hS7
        refine w_asg rfl (by (conv => lhs; whnf); first | done | rfl) ?_
        refine w_nil ?_
        refine bq_n ?_
        refine tq_n ?_
        refine c_region ?_
        refine w_mov rfl (by (conv => lhs; whnf); first | done | rfl) ?_
        refine w_add rfl (by (conv => lhs; whnf); first | done | rfl) (by (conv => lhs; whnf); first | done | rfl) (by omega) ?_
        refine w_asg rfl (by (conv => lhs; whnf); first | done | rfl) ?_
        refine w_nil ?_
        refine tq_n ?_
        exact ⟨(by first | ((repeat (first | with_reducible exact Ag.refl | with_reducible exact Ag.ov | (with_reducible refine Ag.upd ?_ ?_; exact rfl) | with_reducible refine Ag.putn ?_ | (with_reducible refine Ag.ovs ?_ ?_; exact rfl))); done) | (repeat (first | exact Ag.refl | exact Ag.ov | (refine Ag.upd ?_ ?_; exact rfl) | refine Ag.putn ?_ | (refine Ag.ovs ?_ ?_; exact rfl)))), t.lo.length - (k + 1), [(3, _), (5, .int .i64 ((k + 1 : Nat) : Int))], _, by omega, (by first | exact SubL.out | repeat (first | exact List.Sublist.refl _ | exact List.nil_sublist _ | refine .cons_cons _ ?_ | refine .cons _ ?_ | refine List.Sublist.append (List.Sublist.refl _) ?_ | exact List.sublist_append_left _ _ | refine List.Sublist.trans ?_ (List.sublist_append_right _ _))), (by repeat (first | exact .nil | refine .cons rfl ?_)), ⟨k + 1, _, _, by omega, ph_snoc_osl hlt hS7, rfl, rfl, rfl⟩⟩
      · have hkk : k = t.lo.length := (by omega)
        rw [hkk, List.take_length] at hS3
        refine c_exit ?_
        refine tq_e ?_
        refine tq_e ?_
        refine bq_e ?_
        refine tq_n ?_
        refine c_seq ?_
        refine c_region ?_
        refine w_mov rfl (by (conv => lhs; whnf); first | done | rfl) ?_
        refine w_asg rfl (by (conv => lhs; whnf); first | done | rfl) ?_
        refine w_nil ?_
        refine tq_n ?_
        refine c_ret ?_
        exact rq_r (ra_t (by (conv => lhs; whnf); first | done | rfl) .nil) (List.sublist_append_left _ _) (hS3)
end
/-! What the reference asks of a table. -/
def HeadR (t : Tb) : Prop := Sz t.P t.G t.K ∧ (t.da.length : Int) = t.G ∧ (t.ha.length : Int) = t.G * t.P
def HavR (t : Tb) (k : Nat) : Prop := ∀ i : Nat, i < k → t.ha[i]? = some true → ∃ d, t.da[((i : Int) / t.P).toNat]? = some d ∧ 0 ≤ d
noncomputable instance (t : Tb) : Decidable (HeadR t) := Classical.propDecidable _
theorem lst_nn {t : Tb} (h : ∀ l ∈ t.lo, 0 ≤ l.ph) : ∀ x ∈ lst t, 0 ≤ x := by
  intro x hx
  unfold lst sqL at hx
  rcases List.mem_append.1 hx with hx | hx
  · rcases List.mem_append.1 hx with hx | hx
    · exact (mem_nn.1 hx).2
    · split at hx
      · rw [List.mem_singleton.1 hx]; assumption
      · cases hx
  · obtain ⟨l, hl, rfl⟩ := List.mem_map.1 hx
    exact h l hl
theorem nn_self {l : List Int} (h : ∀ x ∈ l, 0 ≤ x) : nn l = l := by
  unfold nn; exact List.filter_eq_self.2 fun x hx => by simpa using h x hx
theorem may_ref_iff {t : Tb} (hh : HeadR t) (hd : ∀ d ∈ t.da, -1 ≤ d) (hv : HavR t t.ha.length) (hs : SeqR t) (hl : (t.lo.length : Int) ≤ t.K ∧ G3 t t.lo.length) : May t ↔ (∀ x ∈ lst t, x ≤ 255) ∧ (lst t).Nodup := by
  have hph : ∀ l ∈ t.lo, 0 ≤ l.ph := fun l hm => by
    obtain ⟨i, hi, rfl⟩ := List.mem_iff_getElem.1 hm
    exact (hl.2.1 i _ hi (getN hi)).1.1
  have hpe : (nn (t.sp :: t.da ++ t.lo.map Lg.ph)).Perm (lst t) := by
    have e : nn (t.sp :: t.da ++ t.lo.map Lg.ph) = usedL t := by
      unfold usedL; rw [nn_app, nn_self (l := t.lo.map Lg.ph)]
      intro x hx
      obtain ⟨l, hl, rfl⟩ := List.mem_map.1 hx
      exact hph l hl
    rw [e]; exact lst_perm.symm
  constructor
  · rintro ⟨hL, h1, h2, h3, h4⟩
    refine ⟨fun x hx => ?_, hpe.nodup_iff.1 h2⟩
    have hx : x ∈ usedL t := mem_lst.1 hx
    unfold usedL at hx
    rcases List.mem_append.1 hx with hx | hx
    · rcases List.mem_cons.1 (mem_nn.1 hx).1 with rfl | hx2
      · rcases hL.2.2 with c | c
        · omega
        · exact c.1.2
      · exact (h1 x hx2).2
    · obtain ⟨l, hm, rfl⟩ := List.mem_map.1 hx
      obtain ⟨i, hi, rfl⟩ := List.mem_iff_getElem.1 hm
      exact (hL.2.1 i _ (getN hi)).2.1.2
  · rintro ⟨h1, h2⟩
    have hle : ∀ x ∈ usedL t, x ≤ 255 := fun x hx => h1 x (mem_lst.2 hx)
    refine ⟨⟨⟨hh.1, hh.2.1, hh.2.2, hl.1⟩, fun i l hi => ?_, ?_⟩, fun d hm => ⟨hd d hm, ?_⟩, hpe.nodup_iff.2 h2, ?_, fun i hi => hv i (List.getElem?_eq_some_iff.1 hi).1 hi⟩
    · have hil := (List.getElem?_eq_some_iff.1 hi).1
      obtain ⟨g1, g2⟩ := hl.2.1 i l hil hi
      exact ⟨⟨g1.2.1, g1.2.2⟩, ⟨g1.1, hle _ (List.mem_append_right _ (List.mem_map.2 ⟨l, List.mem_of_getElem? hi, rfl⟩))⟩, g2⟩
    · rcases hs with c | c
      · exact .inl c.2
      · refine .inr ⟨⟨c.1, hle _ (List.mem_append_left _ (mem_nn.2 ⟨List.mem_cons_self, c.1⟩))⟩, ⟨c.2.1.1.1, by omega⟩, c.2.1.2, c.2.2⟩
    · by_cases h0 : 0 ≤ d
      · exact hle d (List.mem_append_left _ (mem_nn.2 ⟨List.mem_cons_of_mem _ hm, h0⟩))
      · omega
    · have := hl.2.2
      rwa [List.take_length] at this
theorem may_parts {t : Tb} (h : May t) : HeadR t ∧ (∀ d ∈ t.da, -1 ≤ d) ∧ HavR t t.ha.length ∧ SeqR t ∧ ((t.lo.length : Int) ≤ t.K ∧ G3 t t.lo.length) := by
  obtain ⟨⟨⟨a1, a2, a3, a4⟩, b, c⟩, h1, h2, h3, h4⟩ := h
  refine ⟨⟨a1, a2, a3⟩, fun d hd => (h1 d hd).1, fun i _ => h4 i, ?_, a4, fun i l _ hi => ?_, by rw [List.take_length]; exact h3⟩
  · unfold SeqR
    rcases c with c | c
    · left; omega
    · right; exact ⟨c.1.1, ⟨⟨c.2.1.1, by omega⟩, c.2.2.1⟩, c.2.2.2⟩
  · obtain ⟨g1, g2, g3⟩ := b i l hi
    exact ⟨⟨g2.1, g1.1, g1.2⟩, g3⟩
theorem havR_step {t : Tb} {i : Nat} (hi : i < t.ha.length) (hd : ((i : Int) / t.P).toNat < t.da.length) (h : HavR t i) (hn : ¬ (t.ha[i] = true ∧ t.da[((i : Int) / t.P).toNat] < 0)) : HavR t (i + 1) := fun k hk hv => by
  by_cases hki : k = i
  · subst hki
    rw [getN hi] at hv
    injection hv with hv
    exact ⟨_, getN hd, Int.not_lt.1 fun h => hn ⟨hv, h⟩⟩
  · exact h k (by omega) hv
/-- So far no block twice. -/
def Lk (xs : List Int) (k : Nat) : Prop := (∀ x ∈ xs.take k, x ≤ 255) ∧ (xs.take k).Nodup
theorem Lk_step {xs : List Int} {k : Nat} (hk : k < xs.length) (h : Lk xs k) (h1 : xs[k] ≤ 255) (h2 : xs[k] ∉ xs.take k) : Lk xs (k + 1) := by
  unfold Lk
  rw [take_succ' hk]
  refine ⟨fun x hx => (List.mem_append.1 hx).elim (h.1 x) (fun hx => by rw [List.mem_singleton.1 hx]; exact h1), ?_⟩
  rw [List.nodup_append]
  exact ⟨h.2, by simp, fun a ha b hb => by rw [List.mem_singleton.1 hb]; intro e; subst e; exact h2 ha⟩
theorem split_at' {l : List Int} {i : Nat} (h : i < l.length) : l = l.take i ++ l[i] :: l.drop (i + 1) := by
  rw [← List.drop_eq_getElem_cons h, List.take_append_drop]
theorem Lk_bad {xs : List Int} {k : Nat} (hk : k < xs.length) (hb : 255 < xs[k] ∨ xs[k] ∈ xs.take k) : ¬ ((∀ x ∈ xs, x ≤ 255) ∧ xs.Nodup) := by
  rintro ⟨h1, h2⟩
  rcases hb with hb | hb
  · have := h1 _ (List.getElem_mem hk); omega
  · rw [split_at' hk] at h2
    have := (List.nodup_append.1 h2).2.2 _ hb _ List.mem_cons_self
    exact this rfl
section
variable {w0 : World} {L : Own}
theorem checkr_g {v : Value} {t : Tb} (h : TabR w0 L v t) : Gives Try.prog w0 L 53 [v] (fun v' L' => v' = .int .i64 (if May t then 0 else 50) ∧ L' = L) := by
  refine enterP Try.func53 rfl Try.ntmps53 Try.results53 (Nat.le_of_ble_eq_true rfl) fun w hM => ?_
  have hT := h.at hM
  obtain ⟨vd, vh, vl, rfl, hd, hh, hlo⟩ := ((h).at hM).ex; obtain ⟨Ad, cd, rfl, hdc, hdl, hdA, hdR⟩ := id hd.ex; obtain ⟨Ah, ch, rfl, hhc, hhl, hhA, hhR⟩ := id hh.ex; obtain ⟨Al, cl, rfl, hlc, hll, hlA, hlR⟩ := LogR.opn hlo
  clear hM
  refine c_seq ?_
  refine c_region ?_
  refine x_boxa rfl (by (conv => lhs; whnf); first | done | rfl) ?_
  intro b1
  refine w_asg rfl (by (conv => lhs; whnf); first | done | rfl) ?_
  refine w_nil ?_
  refine tq_n ?_
  refine c_seq ?_
  refine c_seq ?_
  refine c_region ?_
  refine x_fa rfl (by (conv => lhs; whnf); first | done | rfl) ?_
  refine x_ldo rfl (by (conv => lhs; whnf); first | done | rfl) (by first | exact HasC.out | exact PutC.out | repeat (first | exact .here | apply Has.there | apply Put.there | apply Has.app | apply Put.app)) (by (conv => lhs; whnf); first | done | rfl) ?_
  refine x_fa rfl (by (conv => lhs; whnf); first | done | rfl) ?_
  refine x_ldo rfl (by (conv => lhs; whnf); first | done | rfl) (by first | exact HasC.out | exact PutC.out | repeat (first | exact .here | apply Has.there | apply Put.there | apply Has.app | apply Put.app)) (by (conv => lhs; whnf); first | done | rfl) ?_
  refine x_fa rfl (by (conv => lhs; whnf); first | done | rfl) ?_
  refine x_ldo rfl (by (conv => lhs; whnf); first | done | rfl) (by first | exact HasC.out | exact PutC.out | repeat (first | exact .here | apply Has.there | apply Put.there | apply Has.app | apply Put.app)) (by (conv => lhs; whnf); first | done | rfl) ?_
  refine x_call (newr_g) rfl rfl rfl ?_
  rintro _ _ ⟨S35, rfl, hN⟩
  obtain ⟨tvs, ev, rfl, htl, hto, hev, hez, hgp⟩ := newR_form hN
  refine w_mov rfl (by (conv => lhs; whnf); first | done | rfl) ?_
  refine w_ext rfl (by (conv => lhs; whnf); first | done | rfl) (by (conv => lhs; whnf); first | done | rfl) ?_
  refine w_ext rfl (by (conv => lhs; whnf); first | done | rfl) (by (conv => lhs; whnf); first | done | rfl) ?_
  refine x_al rfl ?_
  intro b3
  refine x_stw rfl (by (conv => lhs; whnf); first | done | rfl) (by (conv => lhs; whnf); first | done | rfl) (htl) (hto) (by first | exact HasC.out | exact PutC.out | repeat (first | exact .here | apply Has.there | apply Put.there | apply Has.app | apply Put.app)) (by exact htl) ?_
  refine w_asg rfl (by (conv => lhs; whnf); first | done | rfl) ?_
  refine w_nil ?_
  refine tq_n ?_
  refine c_seq ?_
  refine c_region_j [20, 21, 22, 23, 24, 25, 26, 27, 28, 29, 30, 31, 32, 33, 34, 35, 36, 37, 38, 39, 40] 40 (.bool (decide (¬ HeadR t))) ?_ (fun g2 => ?_)
  · all_goals (refine w_mov rfl (by (conv => lhs; whnf); first | done | rfl) ?_)
    all_goals (refine w_neq rfl (by (conv => lhs; whnf); first | done | rfl) (by (conv => lhs; whnf); first | done | rfl) ?_)
    all_goals (refine w_mov rfl (by (conv => lhs; whnf); first | done | rfl) ?_)
    all_goals (first | refine w_lit true rfl rfl rfl ?_ | refine w_lit false rfl rfl rfl ?_ | refine w_cases_od rfl rfl rfl (fun hg => ?_) (fun hg => ?_) | refine w_cases_o rfl rfl rfl (fun hg => ?_) (fun hg => ?_) | skip)
    all_goals (first | refine w_skip rfl ?_ | (refine x_fa rfl (by (conv => lhs; whnf); first | done | rfl) ?_))
    all_goals (first | refine w_skip rfl ?_ | (refine x_ldo rfl (by (conv => lhs; whnf); first | done | rfl) (by first | exact HasC.out | exact PutC.out | repeat (first | exact .here | apply Has.there | apply Put.there | apply Has.app | apply Put.app)) (by (conv => lhs; whnf); first | done | rfl) ?_))
    all_goals (first | refine w_skip rfl ?_ | (refine x_len rfl (by (conv => lhs; whnf); first | done | rfl) ?_))
    all_goals (first | refine w_skip rfl ?_ | (refine x_fa rfl (by (conv => lhs; whnf); first | done | rfl) ?_))
    all_goals (first | refine w_skip rfl ?_ | (refine x_ldo rfl (by (conv => lhs; whnf); first | done | rfl) (by first | exact HasC.out | exact PutC.out | repeat (first | exact .here | apply Has.there | apply Put.there | apply Has.app | apply Put.app)) (by (conv => lhs; whnf); first | done | rfl) ?_))
    all_goals (first | refine w_skip rfl ?_ | (refine w_neq rfl (by (conv => lhs; whnf); first | done | rfl) (by (conv => lhs; whnf); first | done | rfl) ?_))
    all_goals (first | refine w_pick_t rfl rfl (by (conv => lhs; whnf); first | done | rfl) ?_ | refine w_pick_f rfl rfl (by (conv => lhs; whnf); first | done | rfl) ?_)
    all_goals (refine w_mov rfl (by (conv => lhs; whnf); first | done | rfl) ?_)
    all_goals (first | refine w_lit true rfl rfl rfl ?_ | refine w_lit false rfl rfl rfl ?_ | refine w_cases_od rfl rfl rfl (fun hg => ?_) (fun hg => ?_) | refine w_cases_o rfl rfl rfl (fun hg => ?_) (fun hg => ?_) | skip)
    all_goals (first | refine w_skip rfl ?_ | (refine x_fa rfl (by (conv => lhs; whnf); first | done | rfl) ?_))
    all_goals (first | refine w_skip rfl ?_ | (refine x_ldo rfl (by (conv => lhs; whnf); first | done | rfl) (by first | exact HasC.out | exact PutC.out | repeat (first | exact .here | apply Has.there | apply Put.there | apply Has.app | apply Put.app)) (by (conv => lhs; whnf); first | done | rfl) ?_))
    all_goals (first | refine w_skip rfl ?_ | (refine x_len rfl (by (conv => lhs; whnf); first | done | rfl) ?_))
    all_goals (first | refine w_skip rfl ?_ | (refine x_fa rfl (by (conv => lhs; whnf); first | done | rfl) ?_))
    all_goals (first | refine w_skip rfl ?_ | (refine x_ldo rfl (by (conv => lhs; whnf); first | done | rfl) (by first | exact HasC.out | exact PutC.out | repeat (first | exact .here | apply Has.there | apply Put.there | apply Has.app | apply Put.app)) (by (conv => lhs; whnf); first | done | rfl) ?_))
    all_goals (first | refine w_skip rfl ?_ | (refine x_fa rfl (by (conv => lhs; whnf); first | done | rfl) ?_))
    all_goals (first | refine w_skip rfl ?_ | (refine x_ldo rfl (by (conv => lhs; whnf); first | done | rfl) (by first | exact HasC.out | exact PutC.out | repeat (first | exact .here | apply Has.there | apply Put.there | apply Has.app | apply Put.app)) (by (conv => lhs; whnf); first | done | rfl) ?_))
    all_goals (first | refine w_skip rfl ?_ | (refine w_mul rfl (by (conv => lhs; whnf); first | done | rfl) (by (conv => lhs; whnf); first | done | rfl) (by omega) ?_))
    all_goals (first | refine w_skip rfl ?_ | (refine w_neq rfl (by (conv => lhs; whnf); first | done | rfl) (by (conv => lhs; whnf); first | done | rfl) ?_))
    all_goals (first | refine w_pick_t rfl rfl (by (conv => lhs; whnf); first | done | rfl) ?_ | refine w_pick_f rfl rfl (by (conv => lhs; whnf); first | done | rfl) ?_)
    all_goals (refine w_nil ?_)
    all_goals (refine jn (by first | exact (Ag.upd rfl (Ag.upd rfl (Ag.upd rfl (Ag.upd rfl (Ag.upd rfl (Ag.upd rfl (Ag.upd rfl (Ag.upd rfl (Ag.upd rfl (Ag.upd rfl (Ag.upd rfl (Ag.upd rfl (Ag.upd rfl (Ag.upd rfl (Ag.upd rfl (Ag.upd rfl (Ag.upd rfl (Ag.upd rfl (Ag.upd rfl (Ag.upd rfl (Ag.upd rfl Ag.refl))))))))))))))))))))) | exact (by first | ((repeat (first | with_reducible exact Ag.refl | with_reducible exact Ag.ov | (with_reducible refine Ag.upd ?_ ?_; exact rfl) | with_reducible refine Ag.putn ?_ | (with_reducible refine Ag.ovs ?_ ?_; exact rfl))); done) | (repeat (first | exact Ag.refl | exact Ag.ov | (refine Ag.upd ?_ ?_; exact rfl) | refine Ag.putn ?_ | (refine Ag.ovs ?_ ?_; exact rfl))))) (by (conv => lhs; whnf); first | done | rfl) ?_)
    all_goals (exact congrArg Value.bool (by first | (refine decide_eq_decide.2 ?_; unfold HeadR; omega) | (refine (decide_eq_true ?_).symm; unfold HeadR; omega)))
  refine tq_n ?_
  refine c_cond_d (by (conv => lhs; whnf); first | done | rfl) (fun hc40 => ?_) (fun hc40 => ?_)
  · refine c_seq ?_
    refine c_region ?_
    refine w_asg rfl (by (conv => lhs; whnf); first | done | rfl) ?_
    refine w_nil ?_
    refine tq_n ?_
    refine c_ret ?_
    refine tq_r ?_
    exact rq_r (ra_t (by (conv => lhs; whnf); first | done | rfl) .nil) (List.nil_sublist _) (⟨by rw [if_neg (fun hm => hc40 (may_parts hm).1)]; rfl, rfl⟩)
  · have hHd : HeadR t := Decidable.not_not.1 hc40
    have hGP := gp_le hHd.1
    have hz := hHd.1
    have hG := hHd.2.1
    have hH := hHd.2.2
    refine c_skip ?_
    refine tq_n ?_
    refine c_seq ?_
    refine c_seq ?_
    refine c_region ?_
    refine w_asg rfl (by (conv => lhs; whnf); first | done | rfl) ?_
    refine w_nil ?_
    refine tq_n ?_
    refine c_block ?_
    refine c_loop_ov [41, 42, 43, 44, 45, 48, 49, 50, 51, 52, 53, 2, 46, 47, 5] (fun m s L => ∃ (k : Nat), k ≤ t.da.length ∧ (∀ d ∈ t.da.take k, -1 ≤ d) ∧ m = t.da.length - k ∧ s = [(5, .int .i64 k)] ∧ L = [(b1, B 43 (cT t Ad cd Ah ch Al cl))]) (t.da.length) [(5, .int .i64 (0 : Nat))] (by repeat (first | exact .nil | refine .cons rfl ?_)) (by first | exact SubL.out | repeat (first | exact List.Sublist.refl _ | exact List.nil_sublist _ | refine .cons_cons _ ?_ | refine .cons _ ?_ | refine List.Sublist.append (List.Sublist.refl _) ?_ | exact List.sublist_append_left _ _ | refine List.Sublist.trans ?_ (List.sublist_append_right _ _))) (⟨0, by omega, by simp, by omega, rfl, rfl⟩) ?_
    rintro mI sI LI gL0 ⟨k, hk, hd, rfl, rfl, rfl⟩
    refine c_seq ?_
    refine c_seq ?_
    refine c_region ?_
    refine w_mov rfl (by (conv => lhs; whnf); first | done | rfl) ?_
    refine x_fa rfl (by (conv => lhs; whnf); first | done | rfl) ?_
    refine x_ldo rfl (by (conv => lhs; whnf); first | done | rfl) (by first | exact HasC.out | exact PutC.out | repeat (first | exact .here | apply Has.there | apply Put.there | apply Has.app | apply Put.app)) (by (conv => lhs; whnf); first | done | rfl) ?_
    refine x_len rfl (by (conv => lhs; whnf); first | done | rfl) ?_
    refine w_lss rfl (by (conv => lhs; whnf); first | done | rfl) (by (conv => lhs; whnf); first | done | rfl) ?_
    refine w_nil ?_
    refine tq_n ?_
    refine c_cond_d (by (conv => lhs; whnf); first | done | rfl) (fun hc45 => ?_) (fun hc45 => ?_)
    · have hlt : k < t.da.length := by omega
      refine c_skip ?_
      refine tq_n ?_
      refine c_seq ?_
      refine c_block ?_
      refine c_seq ?_
      refine c_region ?_
      refine x_fa rfl (by (conv => lhs; whnf); first | done | rfl) ?_
      refine x_ldo rfl (by (conv => lhs; whnf); first | done | rfl) (by first | exact HasC.out | exact PutC.out | repeat (first | exact .here | apply Has.there | apply Put.there | apply Has.app | apply Put.app)) (by (conv => lhs; whnf); first | done | rfl) ?_
      refine w_mov rfl (by (conv => lhs; whnf); first | done | rfl) ?_
      refine x_ixA rfl (by (conv => lhs; whnf); first | done | rfl) (by (conv => lhs; whnf); first | done | rfl) (hdA (ne_of_lt hlt)) (by omega) (by omega) ?_
      refine x_ld rfl (by (conv => lhs; whnf); first | done | rfl) (rdI (j := (k : Int)) hdR (getN hlt)) ?_
      refine w_lss rfl (by (conv => lhs; whnf); first | done | rfl) (by (conv => lhs; whnf); first | done | rfl) ?_
      refine w_nil ?_
      refine tq_n ?_
      refine c_cond_d (by (conv => lhs; whnf); first | done | rfl) (fun hc53 => ?_) (fun hc53 => ?_)
      · refine c_seq ?_
        refine c_region ?_
        refine w_asg rfl (by (conv => lhs; whnf); first | done | rfl) ?_
        refine w_nil ?_
        refine tq_n ?_
        refine c_ret ?_
        refine bq_r ?_
        refine tq_r ?_
        refine tq_r ?_
        refine bq_r ?_
        refine tq_r ?_
        exact rq_r (ra_t (by (conv => lhs; whnf); first | done | rfl) .nil) (List.nil_sublist _) (⟨by rw [if_neg (fun hm => (by have := (may_parts hm).2.1 _ (List.getElem_mem hlt); omega))]; rfl, rfl⟩)
      · refine c_skip ?_
        refine bq_n ?_
        refine tq_n ?_
        refine c_region ?_
        refine w_mov rfl (by (conv => lhs; whnf); first | done | rfl) ?_
        refine w_add rfl (by (conv => lhs; whnf); first | done | rfl) (by (conv => lhs; whnf); first | done | rfl) (by omega) ?_
        refine w_asg rfl (by (conv => lhs; whnf); first | done | rfl) ?_
        refine w_nil ?_
        refine tq_n ?_
        exact ⟨(by first | ((repeat (first | with_reducible exact Ag.refl | with_reducible exact Ag.ov | (with_reducible refine Ag.upd ?_ ?_; exact rfl) | with_reducible refine Ag.putn ?_ | (with_reducible refine Ag.ovs ?_ ?_; exact rfl))); done) | (repeat (first | exact Ag.refl | exact Ag.ov | (refine Ag.upd ?_ ?_; exact rfl) | refine Ag.putn ?_ | (refine Ag.ovs ?_ ?_; exact rfl)))), t.da.length - (k + 1), [(5, .int .i64 ((k + 1 : Nat) : Int))], _, by omega, (by first | exact SubL.out | repeat (first | exact List.Sublist.refl _ | exact List.nil_sublist _ | refine .cons_cons _ ?_ | refine .cons _ ?_ | refine List.Sublist.append (List.Sublist.refl _) ?_ | exact List.sublist_append_left _ _ | refine List.Sublist.trans ?_ (List.sublist_append_right _ _))), (by repeat (first | exact .nil | refine .cons rfl ?_)), ⟨k + 1, by omega, all_take_succ hlt hd (by omega), rfl, rfl, rfl⟩⟩
    · have hd' : ∀ d ∈ t.da, -1 ≤ d := (by rw [List.take_of_length_le (by omega)] at hd; exact hd)
      refine c_exit ?_
      refine tq_e ?_
      refine tq_e ?_
      refine bq_e ?_
      refine tq_n ?_
      refine c_seq ?_
      refine c_seq ?_
      refine c_region ?_
      refine w_asg rfl (by (conv => lhs; whnf); first | done | rfl) ?_
      refine w_nil ?_
      refine tq_n ?_
      refine c_block ?_
      refine c_loop_ov [54, 55, 56, 57, 58, 61, 62, 63, 64, 65, 66, 67, 68, 69, 70, 71, 72, 73, 74, 75, 76, 2, 59, 60, 6] (fun m s L => ∃ (k : Nat), k ≤ t.ha.length ∧ HavR t k ∧ m = t.ha.length - k ∧ s = [(6, .int .i64 k)] ∧ L = [(b1, B 43 (cT t Ad cd Ah ch Al cl))]) (t.ha.length) [(6, .int .i64 (0 : Nat))] (by repeat (first | exact .nil | refine .cons rfl ?_)) (by first | exact SubL.out | repeat (first | exact List.Sublist.refl _ | exact List.nil_sublist _ | refine .cons_cons _ ?_ | refine .cons _ ?_ | refine List.Sublist.append (List.Sublist.refl _) ?_ | exact List.sublist_append_left _ _ | refine List.Sublist.trans ?_ (List.sublist_append_right _ _))) (⟨0, by omega, fun i hi => absurd hi (Nat.not_lt_zero _), by omega, rfl, rfl⟩) ?_
      rintro mI sI LI gL1 ⟨i, hi, hv, rfl, rfl, rfl⟩
      refine c_seq ?_
      refine c_seq ?_
      refine c_region ?_
      refine w_mov rfl (by (conv => lhs; whnf); first | done | rfl) ?_
      refine x_fa rfl (by (conv => lhs; whnf); first | done | rfl) ?_
      refine x_ldo rfl (by (conv => lhs; whnf); first | done | rfl) (by first | exact HasC.out | exact PutC.out | repeat (first | exact .here | apply Has.there | apply Put.there | apply Has.app | apply Put.app)) (by (conv => lhs; whnf); first | done | rfl) ?_
      refine x_len rfl (by (conv => lhs; whnf); first | done | rfl) ?_
      refine w_lss rfl (by (conv => lhs; whnf); first | done | rfl) (by (conv => lhs; whnf); first | done | rfl) ?_
      refine w_nil ?_
      refine tq_n ?_
      refine c_cond_d (by (conv => lhs; whnf); first | done | rfl) (fun hc58 => ?_) (fun hc58 => ?_)
      · have hilt : i < t.ha.length := (by omega)
        have hP : 4 ≤ t.P := hz.1.1
        have hdp : 0 ≤ (i : Int) / t.P := Int.ediv_nonneg (by omega) (by omega)
        have hdlt : ((i : Int) / t.P).toNat < t.da.length := (by have : (i : Int) / t.P < t.G := Int.ediv_lt_of_lt_mul (by omega) (by omega); omega)
        refine c_skip ?_
        refine tq_n ?_
        refine c_seq ?_
        refine c_block ?_
        refine c_seq ?_
        refine c_draw_j mixed (by kernel_rfl) [61, 62, 63, 64, 65, 66, 67, 68, 69, 70, 71, 72, 73, 74, 75, 76] 76 (.bool (decide (t.ha[i]'hilt = true ∧ t.da[((i : Int) / t.P).toNat]'hdlt < 0))) ?_ (fun g12 => ?_)
        · all_goals (refine x_fa rfl (by (conv => lhs; whnf); first | done | rfl) ?_)
          all_goals (refine x_ldo rfl (by (conv => lhs; whnf); first | done | rfl) (by first | exact HasC.out | exact PutC.out | repeat (first | exact .here | apply Has.there | apply Put.there | apply Has.app | apply Put.app)) (by (conv => lhs; whnf); first | done | rfl) ?_)
          all_goals (refine w_mov rfl (by (conv => lhs; whnf); first | done | rfl) ?_)
          all_goals (refine x_ixA rfl (by (conv => lhs; whnf); first | done | rfl) (by (conv => lhs; whnf); first | done | rfl) (hhA (ne_of_lt hilt)) (by omega) (by omega) ?_)
          all_goals (refine x_ld rfl (by (conv => lhs; whnf); first | done | rfl) (rdB (j := (i : Int)) hhR (getN hilt)) ?_)
          all_goals (refine w_mov rfl (by (conv => lhs; whnf); first | done | rfl) ?_)
          all_goals (first | refine w_lit true rfl rfl rfl ?_ | refine w_lit false rfl rfl rfl ?_ | refine w_cases_od rfl rfl rfl (fun hg => ?_) (fun hg => ?_) | refine w_cases_o rfl rfl rfl (fun hg => ?_) (fun hg => ?_) | skip)
          all_goals (first | refine w_skip rfl ?_ | (refine x_fa rfl (by (conv => lhs; whnf); first | done | rfl) ?_))
          all_goals (first | refine w_skip rfl ?_ | (refine x_ldo rfl (by (conv => lhs; whnf); first | done | rfl) (by first | exact HasC.out | exact PutC.out | repeat (first | exact .here | apply Has.there | apply Put.there | apply Has.app | apply Put.app)) (by (conv => lhs; whnf); first | done | rfl) ?_))
          all_goals (first | refine w_skip rfl ?_ | (refine w_mov rfl (by (conv => lhs; whnf); first | done | rfl) ?_))
          all_goals (first | refine w_skip rfl ?_ | (refine x_fa rfl (by (conv => lhs; whnf); first | done | rfl) ?_))
          all_goals (first | refine w_skip rfl ?_ | (refine x_ldo rfl (by (conv => lhs; whnf); first | done | rfl) (by first | exact HasC.out | exact PutC.out | repeat (first | exact .here | apply Has.there | apply Put.there | apply Has.app | apply Put.app)) (by (conv => lhs; whnf); first | done | rfl) ?_))
          all_goals (first | refine w_skip rfl ?_ | (refine w_quo rfl (by (conv => lhs; whnf); first | done | rfl) (by (conv => lhs; whnf); first | done | rfl) (by omega) (by omega) (by omega) ?_))
          all_goals (first | refine w_skip rfl ?_ | (refine x_ixA rfl (by (conv => lhs; whnf); first | done | rfl) (by (conv => lhs; whnf); first | done | rfl) (hdA (ne_of_lt hdlt)) (hdp) (by omega) ?_))
          all_goals (first | refine w_skip rfl ?_ | (refine x_ld rfl (by (conv => lhs; whnf); first | done | rfl) (rdI (j := (i : Int) / t.P) hdR (getN hdlt)) ?_))
          all_goals (first | refine w_skip rfl ?_ | (refine w_lss rfl (by (conv => lhs; whnf); first | done | rfl) (by (conv => lhs; whnf); first | done | rfl) ?_))
          all_goals (first | refine w_pick_t rfl rfl (by (conv => lhs; whnf); first | done | rfl) ?_ | refine w_pick_f rfl rfl (by (conv => lhs; whnf); first | done | rfl) ?_)
          all_goals (refine w_nil ?_)
          all_goals (refine jn (by first | exact (Ag.upd rfl (Ag.upd rfl (Ag.upd rfl (Ag.upd rfl (Ag.upd rfl (Ag.upd rfl (Ag.upd rfl (Ag.upd rfl (Ag.upd rfl (Ag.upd rfl (Ag.upd rfl (Ag.upd rfl (Ag.upd rfl (Ag.upd rfl (Ag.upd rfl (Ag.upd rfl Ag.refl)))))))))))))))) | exact (by first | ((repeat (first | with_reducible exact Ag.refl | with_reducible exact Ag.ov | (with_reducible refine Ag.upd ?_ ?_; exact rfl) | with_reducible refine Ag.putn ?_ | (with_reducible refine Ag.ovs ?_ ?_; exact rfl))); done) | (repeat (first | exact Ag.refl | exact Ag.ov | (refine Ag.upd ?_ ?_; exact rfl) | refine Ag.putn ?_ | (refine Ag.ovs ?_ ?_; exact rfl))))) (by (conv => lhs; whnf); first | done | rfl) ?_)
          all_goals (exact congrArg Value.bool (by first | exact decide_eq_decide.2 ⟨fun h => ⟨hg, h⟩, fun h => h.2⟩ | exact (decide_eq_false (fun h => by rw [h.1] at hg; cases hg)).symm))
        refine tq_n ?_
        refine c_cond_d (by (conv => lhs; whnf); first | done | rfl) (fun hc76 => ?_) (fun hc76 => ?_)
        · refine c_seq ?_
          refine c_region ?_
          refine w_asg rfl (by (conv => lhs; whnf); first | done | rfl) ?_
          refine w_nil ?_
          refine tq_n ?_
          refine c_ret ?_
          refine bq_r ?_
          refine tq_r ?_
          refine tq_r ?_
          refine bq_r ?_
          refine tq_r ?_
          exact rq_r (ra_t (by (conv => lhs; whnf); first | done | rfl) .nil) (List.nil_sublist _) (⟨by rw [if_neg (fun hm => (by obtain ⟨d, h1, h2⟩ := (may_parts hm).2.2.1 i hilt (by rw [getN hilt, hc76.1]); rw [getN hdlt] at h1; cases h1; omega))]; rfl, rfl⟩)
        · refine c_skip ?_
          refine bq_n ?_
          refine tq_n ?_
          refine c_region ?_
          refine w_mov rfl (by (conv => lhs; whnf); first | done | rfl) ?_
          refine w_add rfl (by (conv => lhs; whnf); first | done | rfl) (by (conv => lhs; whnf); first | done | rfl) (by omega) ?_
          refine w_asg rfl (by (conv => lhs; whnf); first | done | rfl) ?_
          refine w_nil ?_
          refine tq_n ?_
          exact ⟨(by first | ((repeat (first | with_reducible exact Ag.refl | with_reducible exact Ag.ov | (with_reducible refine Ag.upd ?_ ?_; exact rfl) | with_reducible refine Ag.putn ?_ | (with_reducible refine Ag.ovs ?_ ?_; exact rfl))); done) | (repeat (first | exact Ag.refl | exact Ag.ov | (refine Ag.upd ?_ ?_; exact rfl) | refine Ag.putn ?_ | (refine Ag.ovs ?_ ?_; exact rfl)))), t.ha.length - (i + 1), [(6, .int .i64 ((i + 1 : Nat) : Int))], _, by omega, (by first | exact SubL.out | repeat (first | exact List.Sublist.refl _ | exact List.nil_sublist _ | refine .cons_cons _ ?_ | refine .cons _ ?_ | refine List.Sublist.append (List.Sublist.refl _) ?_ | exact List.sublist_append_left _ _ | refine List.Sublist.trans ?_ (List.sublist_append_right _ _))), (by repeat (first | exact .nil | refine .cons rfl ?_)), ⟨i + 1, by omega, havR_step hilt hdlt hv hc76, rfl, rfl, rfl⟩⟩
      · have hii : i = t.ha.length := (by omega)
        subst hii
        refine c_exit ?_
        refine tq_e ?_
        refine tq_e ?_
        refine bq_e ?_
        refine tq_n ?_
        refine c_seq ?_
        refine c_seq ?_
        refine c_region_j [77, 78, 79, 80, 81, 82, 83, 84] 84 (.bool (decide (¬ (SeqR t ∧ ((t.lo.length : Int) ≤ t.K ∧ G3 t t.lo.length))))) ?_ (fun g14 => ?_)
        · all_goals (refine x_ldao rfl (by (conv => lhs; whnf); first | done | rfl) (by first | exact HasC.out | exact PutC.out | repeat (first | exact .here | apply Has.there | apply Put.there | apply Has.app | apply Put.app)) rfl ?_)
          all_goals (refine x_callp (by decide) (seqr_g (hT.sub (List.nil_sublist _))) rfl rfl rfl ?_)
          all_goals (refine w_notd rfl (by (conv => lhs; whnf); first | done | rfl) ?_)
          all_goals (refine w_mov rfl (by (conv => lhs; whnf); first | done | rfl) ?_)
          all_goals (first | refine w_lit true rfl rfl rfl ?_ | refine w_lit false rfl rfl rfl ?_ | refine w_cases_od rfl rfl rfl (fun hg => ?_) (fun hg => ?_) | refine w_cases_o rfl rfl rfl (fun hg => ?_) (fun hg => ?_) | skip)
          all_goals (first | refine w_skip rfl ?_ | (refine x_ldao rfl (by (conv => lhs; whnf); first | done | rfl) (by first | exact HasC.out | exact PutC.out | repeat (first | exact .here | apply Has.there | apply Put.there | apply Has.app | apply Put.app)) rfl ?_))
          all_goals (first | refine w_skip rfl ?_ | (refine x_callp (by decide) (logsr_g (hT.sub (List.nil_sublist _)) hz) rfl rfl rfl ?_))
          all_goals (first | refine w_skip rfl ?_ | (refine w_notd rfl (by (conv => lhs; whnf); first | done | rfl) ?_))
          all_goals (first | refine w_pick_t rfl rfl (by (conv => lhs; whnf); first | done | rfl) ?_ | refine w_pick_f rfl rfl (by (conv => lhs; whnf); first | done | rfl) ?_)
          all_goals (refine w_nil ?_)
          all_goals (refine jn (by first | exact (Ag.upd rfl (Ag.upd rfl (Ag.upd rfl (Ag.upd rfl (Ag.upd rfl (Ag.upd rfl (Ag.upd rfl (Ag.upd rfl Ag.refl)))))))) | exact (by first | ((repeat (first | with_reducible exact Ag.refl | with_reducible exact Ag.ov | (with_reducible refine Ag.upd ?_ ?_; exact rfl) | with_reducible refine Ag.putn ?_ | (with_reducible refine Ag.ovs ?_ ?_; exact rfl))); done) | (repeat (first | exact Ag.refl | exact Ag.ov | (refine Ag.upd ?_ ?_; exact rfl) | refine Ag.putn ?_ | (refine Ag.ovs ?_ ?_; exact rfl))))) (by (conv => lhs; whnf); first | done | rfl) ?_)
          all_goals (exact congrArg Value.bool (by first | exact (decide_eq_true (show ¬ (SeqR t ∧ ((t.lo.length : Int) ≤ t.K ∧ G3 t t.lo.length)) from fun h => hg h.1)).symm | exact decide_eq_decide.2 ⟨fun h h2 => h h2.2, fun h h2 => h ⟨Decidable.not_not.1 hg, h2⟩⟩))
        refine tq_n ?_
        refine c_cond_d (by (conv => lhs; whnf); first | done | rfl) (fun hc84 => ?_) (fun hc84 => ?_)
        · refine c_seq ?_
          refine c_region ?_
          refine w_asg rfl (by (conv => lhs; whnf); first | done | rfl) ?_
          refine w_nil ?_
          refine tq_n ?_
          refine c_ret ?_
          refine tq_r ?_
          exact rq_r (ra_t (by (conv => lhs; whnf); first | done | rfl) .nil) (List.nil_sublist _) (⟨by rw [if_neg (fun hm => hc84 (may_parts hm).2.2.2)]; rfl, rfl⟩)
        · have hSL := Decidable.not_not.1 hc84
          have hK := hSL.2.1
          have hiff := may_ref_iff hHd hd' hv hSL.1 hSL.2
          have hph : ∀ l ∈ t.lo, 0 ≤ l.ph := (fun l hm => (by obtain ⟨i, hi, rfl⟩ := List.mem_iff_getElem.1 hm; exact (hSL.2.2.1 i _ hi (getN hi)).1.1))
          have hpos := lst_nn hph
          have hll : (lst t).length ≤ 1048576 := (by rw [lst_perm.length_eq]; unfold usedL; have := nn_len (t.sp :: t.da); simp only [List.length_append, List.length_map, List.length_cons] at *; omega)
          refine c_skip ?_
          refine tq_n ?_
          refine c_seq ?_
          refine c_region ?_
          refine x_mk rfl (by (conv => lhs; whnf); first | done | rfl) (by (conv => lhs; whnf); first | done | rfl) (by omega) (by omega) (by decide) ?_
          intro b85
          refine w_asg rfl (by (conv => lhs; whnf); first | done | rfl) ?_
          refine w_nil ?_
          refine tq_n ?_
          refine c_seq ?_
          refine c_region ?_
          refine x_ldao rfl (by (conv => lhs; whnf); first | done | rfl) (by first | exact HasC.out | exact PutC.out | repeat (first | exact .here | apply Has.there | apply Put.there | apply Has.app | apply Put.app)) rfl ?_
          refine x_call (list_g (hT.sub (List.nil_sublist _)) (by omega) (by omega)) rfl rfl rfl ?_
          rintro _ _ ⟨S8, rfl, hS8⟩
          obtain ⟨A8, c8, rfl, hcc8, hl8, hA8, hR8⟩ := (SlR.ofOSl (w0 := w) (L := S8) (xs := lst t) (enc := Sl.encI) (by rw [flatI]; exact hS8) rfl (by omega) (List.Sublist.refl _)).ex
          refine w_asg rfl (by (conv => lhs; whnf); first | done | rfl) ?_
          refine w_nil ?_
          refine tq_n ?_
          refine c_seq ?_
          refine c_seq ?_
          refine c_region ?_
          refine w_asg rfl (by (conv => lhs; whnf); first | done | rfl) ?_
          refine w_nil ?_
          refine tq_n ?_
          refine c_block ?_
          refine c_loop_ov [88, 89, 90, 91, 94, 95, 96, 97, 98, 99, 100, 101, 102, 103, 104, 105, 106, 107, 2, 108, 109, 110, 111, 112, 113, 92, 93, 9] (fun m s L => ∃ (k : Nat), k ≤ (lst t).length ∧ Lk (lst t) k ∧ m = (lst t).length - k ∧ s = [(9, .int .i64 k)] ∧ L = S8 ++ [(b85, B 4 (sc 256 ((lst t).take k))), (b1, B 43 (cT t Ad cd Ah ch Al cl))]) ((lst t).length) [(9, .int .i64 (0 : Nat))] (by repeat (first | exact .nil | refine .cons rfl ?_)) (by first | exact SubL.out | repeat (first | exact List.Sublist.refl _ | exact List.nil_sublist _ | refine .cons_cons _ ?_ | refine .cons _ ?_ | refine List.Sublist.append (List.Sublist.refl _) ?_ | exact List.sublist_append_left _ _ | refine List.Sublist.trans ?_ (List.sublist_append_right _ _))) (⟨0, by omega, ⟨by simp, by simp⟩, by omega, rfl, by rw [List.take_zero, ← sc_nil]; rfl⟩) ?_
          rintro mI sI LI gL2 ⟨k, hk, hL, rfl, rfl, rfl⟩
          refine c_seq ?_
          refine c_seq ?_
          refine c_region ?_
          refine w_mov rfl (by (conv => lhs; whnf); first | done | rfl) ?_
          refine w_mov rfl (by (conv => lhs; whnf); first | done | rfl) ?_
          refine x_len rfl (by (conv => lhs; whnf); first | done | rfl) ?_
          refine w_lss rfl (by (conv => lhs; whnf); first | done | rfl) (by (conv => lhs; whnf); first | done | rfl) ?_
          refine w_nil ?_
          refine tq_n ?_
          refine c_cond_d (by (conv => lhs; whnf); first | done | rfl) (fun hc91 => ?_) (fun hc91 => ?_)
          · have hlt : k < (lst t).length := by omega
            have hx0 := hpos _ (List.getElem_mem hlt)
            refine c_skip ?_
            refine tq_n ?_
            refine c_seq ?_
            refine c_block ?_
            refine c_seq ?_
            refine c_seq ?_
            refine c_region_j [94, 95, 96, 97, 98, 99, 100, 101, 102, 103, 104, 105, 106, 107] 107 (.bool (decide (255 < (lst t)[k]'hlt ∨ (lst t)[k]'hlt ∈ (lst t).take k))) ?_ (fun g21 => ?_)
            · all_goals (refine w_mov rfl (by (conv => lhs; whnf); first | done | rfl) ?_)
              all_goals (refine w_mov rfl (by (conv => lhs; whnf); first | done | rfl) ?_)
              all_goals (refine x_ixA rfl (by (conv => lhs; whnf); first | done | rfl) (by (conv => lhs; whnf); first | done | rfl) (hA8 (ne_of_lt hlt)) (by omega) (by omega) ?_)
              all_goals (refine x_ld rfl (by (conv => lhs; whnf); first | done | rfl) (rdI' (j := (k : Int)) (by first | exact SubL.out | repeat (first | exact List.Sublist.refl _ | exact List.nil_sublist _ | refine .cons_cons _ ?_ | refine .cons _ ?_ | refine List.Sublist.append (List.Sublist.refl _) ?_ | exact List.sublist_append_left _ _ | refine List.Sublist.trans ?_ (List.sublist_append_right _ _))) hR8 (getN hlt)) ?_)
              all_goals (refine w_geq rfl (by (conv => lhs; whnf); first | done | rfl) (by (conv => lhs; whnf); first | done | rfl) ?_)
              all_goals (refine w_mov rfl (by (conv => lhs; whnf); first | done | rfl) ?_)
              all_goals (first | refine w_lit true rfl rfl rfl ?_ | refine w_lit false rfl rfl rfl ?_ | refine w_cases_od rfl rfl rfl (fun hg => ?_) (fun hg => ?_) | refine w_cases_o rfl rfl rfl (fun hg => ?_) (fun hg => ?_) | skip)
              all_goals (first | refine w_skip rfl ?_ | (refine w_mov rfl (by (conv => lhs; whnf); first | done | rfl) ?_))
              all_goals (first | refine w_skip rfl ?_ | (refine w_mov rfl (by (conv => lhs; whnf); first | done | rfl) ?_))
              all_goals (first | refine w_skip rfl ?_ | (refine w_mov rfl (by (conv => lhs; whnf); first | done | rfl) ?_))
              all_goals (first | refine w_skip rfl ?_ | (refine x_ixA rfl (by (conv => lhs; whnf); first | done | rfl) (by (conv => lhs; whnf); first | done | rfl) (hA8 (ne_of_lt hlt)) (by omega) (by omega) ?_))
              all_goals (first | refine w_skip rfl ?_ | (refine x_ld rfl (by (conv => lhs; whnf); first | done | rfl) (rdI' (j := (k : Int)) (by first | exact SubL.out | repeat (first | exact List.Sublist.refl _ | exact List.nil_sublist _ | refine .cons_cons _ ?_ | refine .cons _ ?_ | refine List.Sublist.append (List.Sublist.refl _) ?_ | exact List.sublist_append_left _ _ | refine List.Sublist.trans ?_ (List.sublist_append_right _ _))) hR8 (getN hlt)) ?_))
              all_goals (first | refine w_skip rfl ?_ | (refine x_ix rfl (by (conv => lhs; whnf); first | done | rfl) (by (conv => lhs; whnf); first | done | rfl) (by omega) (by omega) ?_))
              all_goals (first | refine w_skip rfl ?_ | (refine x_ld rfl (by (conv => lhs; whnf); first | done | rfl) (Rd.own (by first | exact HasC.out | exact PutC.out | repeat (first | exact .here | apply Has.there | apply Put.there | apply Has.app | apply Put.app)) (by rw [Nat.zero_add, Nat.mul_one]; exact sc_get (by omega) (by omega))) ?_))
              all_goals (first | refine w_pick_t rfl rfl (by (conv => lhs; whnf); first | done | rfl) ?_ | refine w_pick_f rfl rfl (by (conv => lhs; whnf); first | done | rfl) ?_)
              all_goals (refine w_nil ?_)
              all_goals (refine jn (by first | exact (Ag.upd rfl (Ag.upd rfl (Ag.upd rfl (Ag.upd rfl (Ag.upd rfl (Ag.upd rfl (Ag.upd rfl (Ag.upd rfl (Ag.upd rfl (Ag.upd rfl (Ag.upd rfl (Ag.upd rfl (Ag.upd rfl (Ag.upd rfl Ag.refl)))))))))))))) | exact (by first | ((repeat (first | with_reducible exact Ag.refl | with_reducible exact Ag.ov | (with_reducible refine Ag.upd ?_ ?_; exact rfl) | with_reducible refine Ag.putn ?_ | (with_reducible refine Ag.ovs ?_ ?_; exact rfl))); done) | (repeat (first | exact Ag.refl | exact Ag.ov | (refine Ag.upd ?_ ?_; exact rfl) | refine Ag.putn ?_ | (refine Ag.ovs ?_ ?_; exact rfl))))) (by (conv => lhs; whnf); first | done | rfl) ?_)
              all_goals (exact congrArg Value.bool (by first | exact (decide_eq_true (Or.inl (by omega))).symm | exact decide_eq_decide.2 ⟨fun h => .inr (mem_nn.1 h).1, fun h => h.elim (fun h => by omega) (fun h => mem_nn.2 ⟨h, hx0⟩)⟩))
            refine tq_n ?_
            refine c_cond_d (by (conv => lhs; whnf); first | done | rfl) (fun hc107 => ?_) (fun hc107 => ?_)
            · refine c_seq ?_
              refine c_region ?_
              refine w_asg rfl (by (conv => lhs; whnf); first | done | rfl) ?_
              refine w_nil ?_
              refine tq_n ?_
              refine c_ret ?_
              refine tq_r ?_
              refine bq_r ?_
              refine tq_r ?_
              refine tq_r ?_
              refine bq_r ?_
              refine tq_r ?_
              exact rq_r (ra_t (by (conv => lhs; whnf); first | done | rfl) .nil) (List.nil_sublist _) (⟨by rw [if_neg (fun hm => Lk_bad hlt hc107 (hiff.1 hm))]; rfl, rfl⟩)
            · refine c_skip ?_
              refine tq_n ?_
              refine c_region ?_
              refine w_mov rfl (by (conv => lhs; whnf); first | done | rfl) ?_
              refine w_mov rfl (by (conv => lhs; whnf); first | done | rfl) ?_
              refine w_mov rfl (by (conv => lhs; whnf); first | done | rfl) ?_
              refine x_ixA rfl (by (conv => lhs; whnf); first | done | rfl) (by (conv => lhs; whnf); first | done | rfl) (hA8 (ne_of_lt hlt)) (by omega) (by omega) ?_
              refine x_ld rfl (by (conv => lhs; whnf); first | done | rfl) (rdI' (j := (k : Int)) (by first | exact SubL.out | repeat (first | exact List.Sublist.refl _ | exact List.nil_sublist _ | refine .cons_cons _ ?_ | refine .cons _ ?_ | refine List.Sublist.append (List.Sublist.refl _) ?_ | exact List.sublist_append_left _ _ | refine List.Sublist.trans ?_ (List.sublist_append_right _ _))) hR8 (getN hlt)) ?_
              refine x_ix rfl (by (conv => lhs; whnf); first | done | rfl) (by (conv => lhs; whnf); first | done | rfl) (by omega) (by omega) ?_
              refine x_sts rfl (by (conv => lhs; whnf); first | done | rfl) (by (conv => lhs; whnf); first | done | rfl) (rfl) ((by first | exact HasC.out | exact PutC.out | repeat (first | exact .here | apply Has.there | apply Put.there | apply Has.app | apply Put.app))) (by rw [sc_len]; omega) ?_
              refine w_nil ?_
              refine bq_n ?_
              refine tq_n ?_
              refine c_region ?_
              refine w_mov rfl (by (conv => lhs; whnf); first | done | rfl) ?_
              refine w_add rfl (by (conv => lhs; whnf); first | done | rfl) (by (conv => lhs; whnf); first | done | rfl) (by omega) ?_
              refine w_asg rfl (by (conv => lhs; whnf); first | done | rfl) ?_
              refine w_nil ?_
              refine tq_n ?_
              exact ⟨(by first | ((repeat (first | with_reducible exact Ag.refl | with_reducible exact Ag.ov | (with_reducible refine Ag.upd ?_ ?_; exact rfl) | with_reducible refine Ag.putn ?_ | (with_reducible refine Ag.ovs ?_ ?_; exact rfl))); done) | (repeat (first | exact Ag.refl | exact Ag.ov | (refine Ag.upd ?_ ?_; exact rfl) | refine Ag.putn ?_ | (refine Ag.ovs ?_ ?_; exact rfl)))), (lst t).length - (k + 1), [(9, .int .i64 ((k + 1 : Nat) : Int))], _, by omega, (by first | exact SubL.out | repeat (first | exact List.Sublist.refl _ | exact List.nil_sublist _ | refine .cons_cons _ ?_ | refine .cons _ ?_ | refine List.Sublist.append (List.Sublist.refl _) ?_ | exact List.sublist_append_left _ _ | refine List.Sublist.trans ?_ (List.sublist_append_right _ _))), (by repeat (first | exact .nil | refine .cons rfl ?_)), ⟨k + 1, by omega, Lk_step hlt hL (by omega) (fun h => hc107 (.inr h)), rfl, rfl, by rw [sc_setN hx0 (take_succ' hlt)]⟩⟩
          · have hkk : k = (lst t).length := (by omega)
            subst hkk
            refine c_exit ?_
            refine tq_e ?_
            refine tq_e ?_
            refine bq_e ?_
            refine tq_n ?_
            refine c_seq ?_
            refine c_region ?_
            refine w_asg rfl (by (conv => lhs; whnf); first | done | rfl) ?_
            refine w_nil ?_
            refine tq_n ?_
            refine c_ret ?_
            exact rq_r (ra_t (by (conv => lhs; whnf); first | done | rfl) .nil) (List.nil_sublist _) (⟨by rw [if_pos (hiff.2 (by have := hL; unfold Lk at this; rwa [List.take_length] at this))]; rfl, rfl⟩)
end
end Go.Proofs.Ytnmhhelcaibdoaa.Pl
