/- The reference's Clone, of tables whose lists are short. -/
import Derived.Test.YtnmhhelcaibdoaaPm
import Derived.Test.YtnmhhelcaibdoaaPt
namespace Go.Proofs.Ytnmhhelcaibdoaa.Pl
open Go Go.RowKit Sl
set_option linter.unusedVariables false
set_option linter.unusedSimpArgs false
section
variable {w0 : World} {L : Own}
set_option maxHeartbeats 2000000 in
theorem clonx_g {v : Value} {t : Tb} (h : TabR w0 L v t) (hc : Cl t) : Gives Try.prog w0 L 17 [v] (fun v' L' => ∃ S, L' = S ++ L ∧ ∃ Sv Sp Sd Sh, S = Sv ++ (Sp ++ (Sh ++ Sd)) ∧ TW v' t Sv Sp Sd Sh) := by
  refine enterB (R := fun v' S => ∃ Sv Sp Sd Sh, S = Sv ++ (Sp ++ (Sh ++ Sd)) ∧ TW v' t Sv Sp Sd Sh) Try.func17 rfl Try.ntmps17 Try.results17 (Nat.le_of_ble_eq_true rfl) fun w hM => ?_
  have hT := h.at hM
  obtain ⟨vd, vh, vl, rfl, hd, hh, hlo⟩ := ((h).at hM).ex; obtain ⟨Ad, cd, rfl, hdc, hdl, hdA, hdR⟩ := id hd.ex; obtain ⟨Ah, ch, rfl, hhc, hhl, hhA, hhR⟩ := id hh.ex; obtain ⟨Al, cl, rfl, hlc, hll, hlA, hlR⟩ := LogR.opn hlo
  clear hM
  obtain ⟨hc1, hc2, hc3, hc4⟩ := hc
  refine c_seq ?_
  refine c_region ?_
  refine x_boxa rfl (by (conv => lhs; whnf); first | done | rfl) ?_
  intro b1
  refine x_al rfl ?_
  intro b2
  refine w_nil ?_
  refine tq_n ?_
  refine c_seq ?_
  refine c_region ?_
  refine x_ldao rfl (by (conv => lhs; whnf); first | done | rfl) (by first | exact HasC.out | exact PutC.out | repeat (first | exact .here | apply Has.there | apply Put.there | apply Has.app | apply Put.app)) rfl ?_
  refine x_al rfl ?_
  intro b3
  refine x_stw rfl (by (conv => lhs; whnf); first | done | rfl) (by (conv => lhs; whnf); first | done | rfl) rfl rfl (by first | exact HasC.out | exact PutC.out | repeat (first | exact .here | apply Has.there | apply Put.there | apply Has.app | apply Put.app)) rfl ?_
  refine w_nil ?_
  refine tq_n ?_
  refine c_seq ?_
  refine c_region ?_
  refine x_fa rfl (by (conv => lhs; whnf); first | done | rfl) ?_
  refine x_ldo rfl (by (conv => lhs; whnf); first | done | rfl) (by first | exact HasC.out | exact PutC.out | repeat (first | exact .here | apply Has.there | apply Put.there | apply Has.app | apply Put.app)) (by (conv => lhs; whnf); first | done | rfl) ?_
  refine x_app rfl (by (conv => lhs; whnf); first | done | rfl) (by (conv => lhs; whnf); first | done | rfl) (List.Perm.refl ([] ++ _)) (.nil) ((SlR.xs hd encI_ne).sub (List.nil_sublist _)) (lenI _) (onesI _) (by omega) (by decide) ?_
  rintro v8 S8 hS8
  rw [List.nil_append, Nat.zero_add] at hS8
  obtain ⟨A8, c8, rfl, hc8⟩ := hS8.form
  refine x_fa rfl (by (conv => lhs; whnf); first | done | rfl) ?_
  refine x_st1 rfl (by (conv => lhs; whnf); first | done | rfl) (by (conv => lhs; whnf); first | done | rfl) rfl (by first | exact HasC.out | exact PutC.out | repeat (first | exact .here | apply Has.there | apply Put.there | apply Has.app | apply Put.app)) rfl ?_
  refine w_nil ?_
  refine tq_n ?_
  refine c_seq ?_
  refine c_region ?_
  refine x_fa rfl (by (conv => lhs; whnf); first | done | rfl) ?_
  refine x_ldo rfl (by (conv => lhs; whnf); first | done | rfl) (by first | exact HasC.out | exact PutC.out | repeat (first | exact .here | apply Has.there | apply Put.there | apply Has.app | apply Put.app)) (by (conv => lhs; whnf); first | done | rfl) ?_
  refine x_app rfl (by (conv => lhs; whnf); first | done | rfl) (by (conv => lhs; whnf); first | done | rfl) (List.Perm.refl ([] ++ _)) (.nil) ((SlR.xs hh encB_ne).sub (List.nil_sublist _)) (lenB _) (onesB _) (by omega) (by decide) ?_
  rintro v12 S12 hS12
  rw [List.nil_append, Nat.zero_add] at hS12
  obtain ⟨A12, c12, rfl, hc12⟩ := hS12.form
  refine x_fa rfl (by (conv => lhs; whnf); first | done | rfl) ?_
  refine x_st1 rfl (by (conv => lhs; whnf); first | done | rfl) (by (conv => lhs; whnf); first | done | rfl) rfl (by first | exact HasC.out | exact PutC.out | repeat (first | exact .here | apply Has.there | apply Put.there | apply Has.app | apply Put.app)) rfl ?_
  refine w_nil ?_
  refine tq_n ?_
  refine c_seq ?_
  refine c_region ?_
  refine x_fa rfl (by (conv => lhs; whnf); first | done | rfl) ?_
  refine x_st1 rfl (by (conv => lhs; whnf); first | done | rfl) (by (conv => lhs; whnf); first | done | rfl) rfl (by first | exact HasC.out | exact PutC.out | repeat (first | exact .here | apply Has.there | apply Put.there | apply Has.app | apply Put.app)) rfl ?_
  refine w_nil ?_
  refine tq_n ?_
  refine c_seq ?_
  refine c_seq ?_
  refine c_region ?_
  refine w_asg rfl (by (conv => lhs; whnf); first | done | rfl) ?_
  refine w_nil ?_
  refine tq_n ?_
  refine c_block ?_
  refine c_loop_ov [15, 16, 17, 18, 19, 22, 23, 24, 25, 26, 27, 28, 29, 30, 31, 32, 33, 34, 35, 36, 37, 38, 39, 40, 20, 21, 4] (fun m s L => ∃ (k : Nat) (lv : List (Int × Value)) (vl : Value) (Sv Sp : Own), k ≤ t.lo.length ∧ LW lv (t.lo.take k) Sp ∧ OSl 102 2 vl (lv.flatMap encL) k Sv ∧ m = t.lo.length - k ∧ s = [(4, .int .i64 k)] ∧ L = Sv ++ (Sp ++ (S12 ++ (S8 ++ [(b3, B 43 [.int .i64 t.P, .int .i64 t.G, .int .i64 t.K, .slice A8 t.da.length c8, .slice A12 t.ha.length c12, .int .i64 t.sp, .int .i64 t.sl, .int .i64 t.su, vl]), (b2, B 43 zT), (b1, B 43 (cT t Ad cd Ah ch Al cl))])))) (t.lo.length) [(4, .int .i64 (0 : Nat))] (by repeat (first | exact .nil | refine .cons rfl ?_)) (by first | exact SubL.out | repeat (first | exact List.Sublist.refl _ | exact List.nil_sublist _ | refine .cons_cons _ ?_ | refine .cons _ ?_ | refine List.Sublist.append (List.Sublist.refl _) ?_ | exact List.sublist_append_left _ _ | refine List.Sublist.trans ?_ (List.sublist_append_right _ _))) (⟨0, [], _, [], [], by omega, .nil, .nil, by omega, rfl, rfl⟩) ?_
  rintro mI sI LI gL0 ⟨k, lv, vl, Sv, Sp, hk, hLW, hSv, rfl, rfl, rfl⟩
  refine c_seq ?_
  refine c_seq ?_
  obtain ⟨Av, cv, rfl, hcv⟩ := hSv.form
  refine c_region ?_
  refine w_mov rfl (by (conv => lhs; whnf); first | done | rfl) ?_
  refine x_fa rfl (by (conv => lhs; whnf); first | done | rfl) ?_
  refine x_ldo rfl (by (conv => lhs; whnf); first | done | rfl) (by first | exact HasC.out | exact PutC.out | repeat (first | exact .here | apply Has.there | apply Put.there | apply Has.app | apply Put.app)) (by (conv => lhs; whnf); first | done | rfl) ?_
  refine x_len rfl (by (conv => lhs; whnf); first | done | rfl) ?_
  refine w_lss rfl (by (conv => lhs; whnf); first | done | rfl) (by (conv => lhs; whnf); first | done | rfl) ?_
  refine w_nil ?_
  refine tq_n ?_
  refine c_cond_d (by (conv => lhs; whnf); first | done | rfl) (fun hc19 => ?_) (fun hc19 => ?_)
  · have hlt : k < t.lo.length := by omega
    obtain ⟨Ap, cp, hpc, hpl, hpA, hpR, hpI, hph, hpv⟩ := hlR k _ (getN hlt)
    refine c_skip ?_
    refine tq_n ?_
    refine c_seq ?_
    refine c_block ?_
    refine d_begin_s (sub_skip2) [19] mixed ?_
    refine d_tk0 0 (np_blk (np_then (np_then (np_blk (np_then np_ret))))) rfl (by kernel_rfl) (by kernel_rfl) (by kernel_rfl) (by kernel_rfl) (.inl (by first | exact SubL.out | repeat (first | exact List.Sublist.refl _ | exact List.nil_sublist _ | refine .cons_cons _ ?_ | refine .cons _ ?_ | refine List.Sublist.append (List.Sublist.refl _) ?_ | exact List.sublist_append_left _ _ | refine List.Sublist.trans ?_ (List.sublist_append_right _ _)))) ?_
    refine x_fa rfl (by (conv => lhs; whnf); first | done | rfl) ?_
    refine w_nil ⟨rfl, rfl, ?_⟩
    refine d_tk 1 (np_blk (np_then (np_then (np_blk (np_then np_ret))))) rfl (by kernel_rfl) (by kernel_rfl) (by kernel_rfl) (by kernel_rfl) (by kernel_rfl) (by first | exact SubL.out | repeat (first | exact List.Sublist.refl _ | exact List.nil_sublist _ | refine .cons_cons _ ?_ | refine .cons _ ?_ | refine List.Sublist.append (List.Sublist.refl _) ?_ | exact List.sublist_append_left _ _ | refine List.Sublist.trans ?_ (List.sublist_append_right _ _))) ?_
    refine x_ldo rfl (by (conv => lhs; whnf); first | done | rfl) (by first | exact HasC.out | exact PutC.out | repeat (first | exact .here | apply Has.there | apply Put.there | apply Has.app | apply Put.app)) (by (conv => lhs; whnf); first | done | rfl) ?_
    refine w_nil ⟨rfl, rfl, ?_⟩
    refine d_tk0 2 (np_blk (np_then (np_then (np_blk (np_then np_ret))))) rfl (by kernel_rfl) (by kernel_rfl) (by kernel_rfl) (by kernel_rfl) (.inl (by first | exact SubL.out | repeat (first | exact List.Sublist.refl _ | exact List.nil_sublist _ | refine .cons_cons _ ?_ | refine .cons _ ?_ | refine List.Sublist.append (List.Sublist.refl _) ?_ | exact List.sublist_append_left _ _ | refine List.Sublist.trans ?_ (List.sublist_append_right _ _)))) ?_
    refine x_fa rfl (by (conv => lhs; whnf); first | done | rfl) ?_
    refine w_nil ⟨rfl, rfl, ?_⟩
    refine d_tk 3 (np_blk (np_then (np_then (np_blk (np_then np_ret))))) rfl (by kernel_rfl) (by kernel_rfl) (by kernel_rfl) (by kernel_rfl) (by kernel_rfl) (by first | exact SubL.out | repeat (first | exact List.Sublist.refl _ | exact List.nil_sublist _ | refine .cons_cons _ ?_ | refine .cons _ ?_ | refine List.Sublist.append (List.Sublist.refl _) ?_ | exact List.sublist_append_left _ _ | refine List.Sublist.trans ?_ (List.sublist_append_right _ _))) ?_
    refine x_ldo rfl (by (conv => lhs; whnf); first | done | rfl) (by first | exact HasC.out | exact PutC.out | repeat (first | exact .here | apply Has.there | apply Put.there | apply Has.app | apply Put.app)) (by (conv => lhs; whnf); first | done | rfl) ?_
    refine w_nil ⟨rfl, rfl, ?_⟩
    refine d_tk0 4 (np_blk (np_then (np_then (np_blk (np_then np_ret))))) rfl (by kernel_rfl) (by kernel_rfl) (by kernel_rfl) (by kernel_rfl) (.inl (by first | exact SubL.out | repeat (first | exact List.Sublist.refl _ | exact List.nil_sublist _ | refine .cons_cons _ ?_ | refine .cons _ ?_ | refine List.Sublist.append (List.Sublist.refl _) ?_ | exact List.sublist_append_left _ _ | refine List.Sublist.trans ?_ (List.sublist_append_right _ _)))) ?_
    refine w_mov rfl (by (conv => lhs; whnf); first | done | rfl) ?_
    refine w_nil ⟨rfl, rfl, ?_⟩
    refine d_tk0 5 (np_blk (np_then (np_then (np_blk (np_then np_ret))))) rfl (by kernel_rfl) (by kernel_rfl) (by kernel_rfl) (by kernel_rfl) (.inl (by first | exact SubL.out | repeat (first | exact List.Sublist.refl _ | exact List.nil_sublist _ | refine .cons_cons _ ?_ | refine .cons _ ?_ | refine List.Sublist.append (List.Sublist.refl _) ?_ | exact List.sublist_append_left _ _ | refine List.Sublist.trans ?_ (List.sublist_append_right _ _)))) ?_
    refine x_ixA rfl (by (conv => lhs; whnf); first | done | rfl) (by (conv => lhs; whnf); first | done | rfl) (hlA (ne_of_lt hlt)) (by omega) (by omega) ?_
    refine w_nil ⟨rfl, rfl, ?_⟩
    refine d_tk0 6 (np_blk (np_then (np_then (np_blk (np_then np_ret))))) rfl (by kernel_rfl) (by kernel_rfl) (by kernel_rfl) (by kernel_rfl) (.inl (by first | exact SubL.out | repeat (first | exact List.Sublist.refl _ | exact List.nil_sublist _ | refine .cons_cons _ ?_ | refine .cons _ ?_ | refine List.Sublist.append (List.Sublist.refl _) ?_ | exact List.sublist_append_left _ _ | refine List.Sublist.trans ?_ (List.sublist_append_right _ _)))) ?_
    refine x_fa rfl (by (conv => lhs; whnf); first | done | rfl) ?_
    refine w_nil ⟨rfl, rfl, ?_⟩
    refine d_tk 7 (np_blk (np_then (np_then (np_blk (np_then np_ret))))) rfl (by kernel_rfl) (by kernel_rfl) (by kernel_rfl) (by kernel_rfl) (by kernel_rfl) (by first | exact SubL.out | repeat (first | exact List.Sublist.refl _ | exact List.nil_sublist _ | refine .cons_cons _ ?_ | refine .cons _ ?_ | refine List.Sublist.append (List.Sublist.refl _) ?_ | exact List.sublist_append_left _ _ | refine List.Sublist.trans ?_ (List.sublist_append_right _ _))) ?_
    refine x_ld rfl (by (conv => lhs; whnf); first | done | rfl) (hph.sub (List.nil_sublist _)) ?_
    refine w_nil ⟨rfl, rfl, ?_⟩
    refine d_tk0 8 (np_blk (np_then (np_then (np_blk (np_then np_ret))))) rfl (by kernel_rfl) (by kernel_rfl) (by kernel_rfl) (by kernel_rfl) (.inl (by first | exact SubL.out | repeat (first | exact List.Sublist.refl _ | exact List.nil_sublist _ | refine .cons_cons _ ?_ | refine .cons _ ?_ | refine List.Sublist.append (List.Sublist.refl _) ?_ | exact List.sublist_append_left _ _ | refine List.Sublist.trans ?_ (List.sublist_append_right _ _)))) ?_
    refine x_fa rfl (by (conv => lhs; whnf); first | done | rfl) ?_
    refine w_nil ⟨rfl, rfl, ?_⟩
    refine d_tk 9 (np_blk (np_then (np_then (np_blk (np_then np_ret))))) rfl (by kernel_rfl) (by kernel_rfl) (by kernel_rfl) (by kernel_rfl) (by kernel_rfl) (by first | exact SubL.out | repeat (first | exact List.Sublist.refl _ | exact List.nil_sublist _ | refine .cons_cons _ ?_ | refine .cons _ ?_ | refine List.Sublist.append (List.Sublist.refl _) ?_ | exact List.sublist_append_left _ _ | refine List.Sublist.trans ?_ (List.sublist_append_right _ _))) ?_
    refine x_ldo rfl (by (conv => lhs; whnf); first | done | rfl) (by first | exact HasC.out | exact PutC.out | repeat (first | exact .here | apply Has.there | apply Put.there | apply Has.app | apply Put.app)) (by (conv => lhs; whnf); first | done | rfl) ?_
    refine w_nil ⟨rfl, rfl, ?_⟩
    refine d_tk0 10 (np_blk (np_then (np_then (np_blk (np_then np_ret))))) rfl (by kernel_rfl) (by kernel_rfl) (by kernel_rfl) (by kernel_rfl) (.inl (by first | exact SubL.out | repeat (first | exact List.Sublist.refl _ | exact List.nil_sublist _ | refine .cons_cons _ ?_ | refine .cons _ ?_ | refine List.Sublist.append (List.Sublist.refl _) ?_ | exact List.sublist_append_left _ _ | refine List.Sublist.trans ?_ (List.sublist_append_right _ _)))) ?_
    refine w_mov rfl (by (conv => lhs; whnf); first | done | rfl) ?_
    refine w_nil ⟨rfl, rfl, ?_⟩
    refine d_tk0 11 (np_blk (np_then (np_then (np_blk (np_then np_ret))))) rfl (by kernel_rfl) (by kernel_rfl) (by kernel_rfl) (by kernel_rfl) (.inl (by first | exact SubL.out | repeat (first | exact List.Sublist.refl _ | exact List.nil_sublist _ | refine .cons_cons _ ?_ | refine .cons _ ?_ | refine List.Sublist.append (List.Sublist.refl _) ?_ | exact List.sublist_append_left _ _ | refine List.Sublist.trans ?_ (List.sublist_append_right _ _)))) ?_
    refine x_ixA rfl (by (conv => lhs; whnf); first | done | rfl) (by (conv => lhs; whnf); first | done | rfl) (hlA (ne_of_lt hlt)) (by omega) (by omega) ?_
    refine w_nil ⟨rfl, rfl, ?_⟩
    refine d_tk0 12 (np_blk (np_then (np_then (np_blk (np_then np_ret))))) rfl (by kernel_rfl) (by kernel_rfl) (by kernel_rfl) (by kernel_rfl) (.inl (by first | exact SubL.out | repeat (first | exact List.Sublist.refl _ | exact List.nil_sublist _ | refine .cons_cons _ ?_ | refine .cons _ ?_ | refine List.Sublist.append (List.Sublist.refl _) ?_ | exact List.sublist_append_left _ _ | refine List.Sublist.trans ?_ (List.sublist_append_right _ _)))) ?_
    refine x_fa rfl (by (conv => lhs; whnf); first | done | rfl) ?_
    refine w_nil ⟨rfl, rfl, ?_⟩
    refine d_tk 13 (np_blk (np_then (np_then (np_blk (np_then np_ret))))) rfl (by kernel_rfl) (by kernel_rfl) (by kernel_rfl) (by kernel_rfl) (by kernel_rfl) (by first | exact SubL.out | repeat (first | exact List.Sublist.refl _ | exact List.nil_sublist _ | refine .cons_cons _ ?_ | refine .cons _ ?_ | refine List.Sublist.append (List.Sublist.refl _) ?_ | exact List.sublist_append_left _ _ | refine List.Sublist.trans ?_ (List.sublist_append_right _ _))) ?_
    refine x_ld rfl (by (conv => lhs; whnf); first | done | rfl) (hpv.sub (List.nil_sublist _)) ?_
    refine w_nil ⟨rfl, rfl, ?_⟩
    refine d_one 14 rfl (by kernel_rfl) ?_
    refine x_app rfl (by (conv => lhs; whnf); first | done | rfl) (by (conv => lhs; whnf); first | done | rfl) (List.Perm.refl ([] ++ _)) (.nil) ((SlR.xs hpI encI_ne).sub (List.nil_sublist _)) (lenI _) (onesI _) (by have := hc4 _ (List.getElem_mem hlt); omega) (by decide) ?_
    rintro v36 S36 hS36
    rw [List.nil_append, Nat.zero_add] at hS36
    obtain ⟨A36, c36, rfl, hc36⟩ := hS36.form
    refine w_nil ⟨rfl, (.inl (by first | exact SubL.out | repeat (first | exact List.Sublist.refl _ | exact List.nil_sublist _ | refine .cons_cons _ ?_ | refine .cons _ ?_ | refine List.Sublist.append (List.Sublist.refl _) ?_ | exact List.sublist_append_left _ _ | refine List.Sublist.trans ?_ (List.sublist_append_right _ _)))), ?_⟩
    refine d_tk0 15 (np_blk (np_then (np_then (np_blk (np_then np_ret))))) rfl (by kernel_rfl) (by kernel_rfl) (by kernel_rfl) (by kernel_rfl) (.inl (by first | exact SubL.out | repeat (first | exact List.Sublist.refl _ | exact List.nil_sublist _ | refine .cons_cons _ ?_ | refine .cons _ ?_ | refine List.Sublist.append (List.Sublist.refl _) ?_ | exact List.sublist_append_left _ _ | refine List.Sublist.trans ?_ (List.sublist_append_right _ _)))) ?_
    refine x_bld rfl (.cons (by (conv => lhs; whnf); first | done | rfl) (.cons (by (conv => lhs; whnf); first | done | rfl) .nil)) rfl ?_
    refine w_nil ⟨rfl, rfl, ?_⟩
    refine d_one 16 rfl (by kernel_rfl) ?_
    refine x_bs1 rfl (by (conv => lhs; whnf); first | done | rfl) rfl rfl rfl rfl ?_
    intro b38
    refine w_nil ⟨rfl, (.inl (by first | exact SubL.out | repeat (first | exact List.Sublist.refl _ | exact List.nil_sublist _ | refine .cons_cons _ ?_ | refine .cons _ ?_ | refine List.Sublist.append (List.Sublist.refl _) ?_ | exact List.sublist_append_left _ _ | refine List.Sublist.trans ?_ (List.sublist_append_right _ _)))), ?_⟩
    refine d_one 17 rfl (by kernel_rfl) ?_
    refine x_app rfl (by (conv => lhs; whnf); first | done | rfl) (by (conv => lhs; whnf); first | done | rfl) (perm4') (hSv) (xs_new (by first | exact HasC.out | exact PutC.out | repeat (first | exact .here | apply Has.there | apply Put.there | apply Has.app | apply Put.app))) (rfl) (rfl) (by omega) (by decide) ?_
    rintro vl2 Sv2 hSv2
    refine w_nil ⟨rfl, (.inl (by first | exact SubL.out | repeat (first | exact List.Sublist.refl _ | exact List.nil_sublist _ | refine .cons_cons _ ?_ | refine .cons _ ?_ | refine List.Sublist.append (List.Sublist.refl _) ?_ | exact List.sublist_append_left _ _ | refine List.Sublist.trans ?_ (List.sublist_append_right _ _)))), ?_⟩
    refine d_tk0 18 (np_blk (np_then (np_then (np_blk (np_then np_ret))))) rfl (by kernel_rfl) (by kernel_rfl) (by kernel_rfl) (by kernel_rfl) (.inl (by first | exact SubL.out | repeat (first | exact List.Sublist.refl _ | exact List.nil_sublist _ | refine .cons_cons _ ?_ | refine .cons _ ?_ | refine List.Sublist.append (List.Sublist.refl _) ?_ | exact List.sublist_append_left _ _ | refine List.Sublist.trans ?_ (List.sublist_append_right _ _)))) ?_
    refine x_fa rfl (by (conv => lhs; whnf); first | done | rfl) ?_
    refine w_nil ⟨rfl, rfl, ?_⟩
    refine d_one 19 rfl (by kernel_rfl) ?_
    refine x_st1 rfl (by (conv => lhs; whnf); first | done | rfl) (by (conv => lhs; whnf); first | done | rfl) (hSv2.one) (by first | exact HasC.out | exact PutC.out | repeat (first | exact .here | apply Has.there | apply Put.there | apply Has.app | apply Put.app)) rfl ?_
    refine w_nil ⟨rfl, (.inr (by kernel_rfl)), ?_⟩
    refine d_done (by kernel_rfl) ?_
    refine bq_n ?_
    refine tq_n ?_
    refine c_region ?_
    refine w_mov rfl (by (conv => lhs; whnf); first | done | rfl) ?_
    refine w_add rfl (by (conv => lhs; whnf); first | done | rfl) (by (conv => lhs; whnf); first | done | rfl) (by omega) ?_
    refine w_asg rfl (by (conv => lhs; whnf); first | done | rfl) ?_
    refine w_nil ?_
    refine tq_n ?_
    exact ⟨(by first | ((repeat (first | with_reducible exact Ag.refl | with_reducible exact Ag.ov | (with_reducible refine Ag.upd ?_ ?_; exact rfl) | with_reducible refine Ag.putn ?_ | (with_reducible refine Ag.ovs ?_ ?_; exact rfl))); done) | (repeat (first | exact Ag.refl | exact Ag.ov | (refine Ag.upd ?_ ?_; exact rfl) | refine Ag.putn ?_ | (refine Ag.ovs ?_ ?_; exact rfl)))), t.lo.length - (k + 1), [(4, .int .i64 ((k + 1 : Nat) : Int))], _, by omega, (by rw [List.append_assoc]; exact (by first | exact SubL.out | repeat (first | exact List.Sublist.refl _ | exact List.nil_sublist _ | refine .cons_cons _ ?_ | refine .cons _ ?_ | refine List.Sublist.append (List.Sublist.refl _) ?_ | exact List.sublist_append_left _ _ | refine List.Sublist.trans ?_ (List.sublist_append_right _ _)))), (by repeat (first | exact .nil | refine .cons rfl ?_)), ⟨k + 1, lv ++ [((t.lo[k]'hlt).ph, .slice A36 _ c36)], vl2, Sv2, S36 ++ Sp, by omega, by rw [take_succ' hlt]; exact .snoc hLW (by rw [← flatI]; exact hS36) hpl, by rw [List.flatMap_append]; exact hSv2, rfl, rfl, rfl⟩⟩
  · have hkk : k = t.lo.length := (by omega)
    subst hkk
    rw [List.take_length] at hLW
    refine c_exit ?_
    refine tq_e ?_
    refine tq_e ?_
    refine bq_e ?_
    refine tq_n ?_
    refine c_seq ?_
    refine c_region ?_
    refine x_ldao rfl (by (conv => lhs; whnf); first | done | rfl) (by first | exact HasC.out | exact PutC.out | repeat (first | exact .here | apply Has.there | apply Put.there | apply Has.app | apply Put.app)) rfl ?_
    refine x_stw rfl (by (conv => lhs; whnf); first | done | rfl) (by (conv => lhs; whnf); first | done | rfl) rfl rfl (by first | exact HasC.out | exact PutC.out | repeat (first | exact .here | apply Has.there | apply Put.there | apply Has.app | apply Put.app)) rfl ?_
    refine w_nil ?_
    refine tq_n ?_
    refine c_ret ?_
    exact rq_r (ra_c (by (conv => lhs; whnf); first | done | rfl) (by first | exact HasC.out | exact PutC.out | repeat (first | exact .here | apply Has.there | apply Put.there | apply Has.app | apply Put.app)) rfl .nil) (by first | exact SubL.out | repeat (first | exact List.Sublist.refl _ | exact List.nil_sublist _ | refine .cons_cons _ ?_ | refine .cons _ ?_ | refine List.Sublist.append (List.Sublist.refl _) ?_ | exact List.sublist_append_left _ _ | refine List.Sublist.trans ?_ (List.sublist_append_right _ _))) (⟨Sv, Sp, S8, S12, rfl, _, _, _, lv, rfl, hS8, hS12, hSv, hLW⟩)
theorem clonx_tab {v : Value} {t : Tb} (h : TabR w0 L v t) (hc : Cl t) : Gives Try.prog w0 L 17 [v] (fun v' L' => ∃ S, L' = S ++ L ∧ ∃ c0 c1 c2 c3 c4 c5 c6 c7 c8, v' = .agg #[c0, c1, c2, c3, c4, c5, c6, c7, c8] ∧ [c0, c1, c2, c3, c4, c5, c6, c7, c8].all Value.oneCell' = true ∧ TabO S (.agg #[c0, c1, c2, c3, c4, c5, c6, c7, c8]) t) :=
  (clonx_g h hc).mono fun v' L' ⟨S, h1, Sv, Sp, Sd, Sh, h2, hT⟩ => by
    have hO : TabO S v' t := fun w0 L hs => by
      subst h2
      exact hT.tab hc (List.Sublist.trans (show Sv.Sublist (Sv ++ (Sp ++ (Sh ++ Sd))) from (by first | exact SubL.out | repeat (first | exact List.Sublist.refl _ | exact List.nil_sublist _ | refine .cons_cons _ ?_ | refine .cons _ ?_ | refine List.Sublist.append (List.Sublist.refl _) ?_ | exact List.sublist_append_left _ _ | refine List.Sublist.trans ?_ (List.sublist_append_right _ _)))) hs) (List.Sublist.trans (show Sp.Sublist (Sv ++ (Sp ++ (Sh ++ Sd))) from (by first | exact SubL.out | repeat (first | exact List.Sublist.refl _ | exact List.nil_sublist _ | refine .cons_cons _ ?_ | refine .cons _ ?_ | refine List.Sublist.append (List.Sublist.refl _) ?_ | exact List.sublist_append_left _ _ | refine List.Sublist.trans ?_ (List.sublist_append_right _ _)))) hs) (List.Sublist.trans (show Sd.Sublist (Sv ++ (Sp ++ (Sh ++ Sd))) from (by first | exact SubL.out | repeat (first | exact List.Sublist.refl _ | exact List.nil_sublist _ | refine .cons_cons _ ?_ | refine .cons _ ?_ | refine List.Sublist.append (List.Sublist.refl _) ?_ | exact List.sublist_append_left _ _ | refine List.Sublist.trans ?_ (List.sublist_append_right _ _)))) hs) (List.Sublist.trans (show Sh.Sublist (Sv ++ (Sp ++ (Sh ++ Sd))) from (by first | exact SubL.out | repeat (first | exact List.Sublist.refl _ | exact List.nil_sublist _ | refine .cons_cons _ ?_ | refine .cons _ ?_ | refine List.Sublist.append (List.Sublist.refl _) ?_ | exact List.sublist_append_left _ _ | refine List.Sublist.trans ?_ (List.sublist_append_right _ _)))) hs)
    obtain ⟨c0, c1, c2, c3, c4, c5, c6, c7, c8, rfl, ho⟩ := tabO_cells hO
    exact ⟨S, h1, _, _, _, _, _, _, _, _, _, rfl, ho, hO⟩
end
end Go.Proofs.Ytnmhhelcaibdoaa.Pl
