/- The reference's moved, Folded, Switched: they answer what plan's do. -/
import Derived.Test.YtnmhhelcaibdoaaEj
namespace Go.Proofs.Ytnmhhelcaibdoaa.Pl
open Go Go.RowKit Sl
set_option linter.unusedVariables false
set_option linter.unusedSimpArgs false
theorem ovr_nil {α : Type} {l : List α} {o : Nat} : ovr l o [] = l := by simp [ovr]
theorem ovr_snoc {α : Type} {l xs : List α} {o : Nat} {x : α} (h : o + xs.length < l.length) : (ovr l o xs).set (o + xs.length) x = ovr l o (xs ++ [x]) := by
  have hl : (l.take o).length = o := by rw [List.length_take]; omega
  unfold ovr
  rw [List.set_append_right _ _ (by omega), List.set_append_right _ _ (by omega), List.length_append, List.length_singleton]
  rw [hl, show o + xs.length - o - xs.length = 0 by omega, List.drop_eq_getElem_cons (by omega), List.set_cons_zero]
  simp [Nat.add_assoc]
theorem hv_ovr {t : Tb} {b : Int} {o k : Nat} {sp : List Value} (hk : k < t.P.toNat) (h : o + t.P.toNat ≤ t.ha.length) : ((ovr t.ha o ((hvF t b).take k)).flatMap Sl.encB ++ sp).set (0 + (o + k) * 1) (.bool (whr t (b * t.P + (k : Int))).isSome) = (ovr t.ha o ((hvF t b).take (k + 1))).flatMap Sl.encB ++ sp := by
  have hl : ((hvF t b).take k).length = k := by rw [List.length_take, hvF_len]; omega
  have hk2 : k < (hvF t b).length := by rw [hvF_len]; exact hk
  have e := ovr_snoc (l := t.ha) (xs := (hvF t b).take k) (o := o) (x := (whr t (b * t.P + (k : Int))).isSome) (by rw [hl]; omega)
  rw [hl] at e
  rw [take_succ' hk2, show (hvF t b)[k] = (whr t (b * t.P + (k : Int))).isSome by simp [hvF], ← e, flatB, flatB, Nat.zero_add, Nat.mul_one, List.set_append_left _ _ (by rw [List.length_map, ovr_len (by rw [hl]; omega)]; omega), List.map_set]
section
variable {w0 : World} {L : Own}
set_option maxHeartbeats 4000000 in
theorem movedr_g {v : Value} {t : Tb} {b ph : Int} (h : TabR w0 L v t) (hm : May t) (hb0 : 0 ≤ b) (hb1 : b ≤ t.G - 1) (hm' : May (setT t b ph)) : Gives Try.prog w0 L 79 [v, .int .i64 b, .int .i64 ph] (fun v' L' => ∃ S, L' = S ++ L ∧ TabO S v' (setT t b ph)) := by
  refine enterB (R := fun v' S => TabO S v' (setT t b ph)) Try.func79 rfl Try.ntmps79 Try.results79 (Nat.le_of_ble_eq_true rfl) fun w hM => ?_
  have hT := h.at hM
  obtain ⟨vd, vh, vl, rfl, hd, hh, hlo⟩ := ((h).at hM).ex; obtain ⟨Ad, cd, rfl, hdc, hdl, hdA, hdR⟩ := id hd.ex; obtain ⟨Ah, ch, rfl, hhc, hhl, hhA, hhR⟩ := id hh.ex; obtain ⟨Al, cl, rfl, hlc, hll, hlA, hlR⟩ := LogR.opn hlo
  clear hM
  have hLi := hm.1
  have hcl := hLi.cl
  have hP : 4 ≤ t.P := hLi.1.1.1.1
  have hP2 := hLi.1.1.1.2
  have hGP := gp_le hLi.1.1
  have hG := hLi.1.2.1
  have hH := hLi.1.2.2.1
  have hG2 := hLi.1.1.2.1
  have hpin := pg_in hLi hb0 hb1 (Int.le_refl 0) (show 0 < t.P by omega)
  have hend := pg_in hLi hb0 hb1 (show 0 ≤ t.P - 1 by omega) (show t.P - 1 < t.P by omega)
  refine c_seq ?_
  refine c_region ?_
  refine x_boxa rfl (by (conv => lhs; whnf) <;> rfl) ?_
  intro b3
  refine x_al rfl ?_
  intro b6
  refine w_nil ?_
  refine tq_n ?_
  refine c_seq ?_
  refine c_region ?_
  refine x_ldao rfl (by (conv => lhs; whnf) <;> rfl) (by first | exact HasC.out | exact PutC.out) rfl ?_
  refine x_call (clonr_g (hT.sub (List.nil_sublist _)) hcl.b) rfl rfl rfl ?_
  rintro _ _ ⟨S, rfl, Sv, Sp, Sd, Sh, rfl, vd2, vh2, vl2, lv, rfl, g1, g2, g3, g4⟩
  obtain ⟨bD, spD, cD, rfl, rfl, hlD, hcD, hsD⟩ := OSl.ne g1 (by omega)
  obtain ⟨bH, spH, cH, rfl, rfl, hlH, hcH, hsH⟩ := OSl.ne g2 (by omega)
  obtain ⟨Al2, cl2, rfl, hcl2, hAl, hRl⟩ := logs_opn g3 g4.len hcl.2.2.1
  simp only [List.append_assoc, List.cons_append, List.nil_append]
  refine x_al rfl ?_
  intro b7
  refine x_stw rfl (by (conv => lhs; whnf) <;> rfl) (by (conv => lhs; whnf) <;> rfl) rfl rfl (by first | exact HasC.out | exact PutC.out) rfl ?_
  refine w_nil ?_
  refine tq_n ?_
  refine c_seq ?_
  refine c_seq ?_
  refine c_region ?_
  refine w_asg rfl (by (conv => lhs; whnf) <;> rfl) ?_
  refine w_nil ?_
  refine tq_n ?_
  refine c_block ?_
  refine c_loop_ov [13, 14, 15, 16, 20, 21, 22, 23, 24, 25, 26, 27, 19, 28, 29, 9, 10, 30, 31, 32, 33, 34, 35, 36, 37, 38, 39, 17, 18, 8] (fun m s L => ∃ (k : Nat), (k : Int) ≤ t.P ∧ m = t.P.toNat - k ∧ s = [(8, .int .i64 k)] ∧ L = (b7, B 43 [.int .i64 t.P, .int .i64 t.G, .int .i64 t.K, .slice (some ⟨bD, 0, none⟩) t.da.length cD, .slice (some ⟨bH, 0, none⟩) t.ha.length cH, .int .i64 t.sp, .int .i64 t.sl, .int .i64 t.su, .slice Al2 t.lo.length cl2]) :: (Sv ++ (Sp ++ ((bH, B 4 ((ovr t.ha (b * t.P).toNat ((hvF t b).take k)).flatMap Sl.encB ++ spH)) :: (bD, B 3 (t.da.flatMap Sl.encI ++ spD)) :: [(b6, B 43 zT), (b3, B 43 (cT t Ad cd Ah ch Al cl))])))) (t.P.toNat) [(8, .int .i64 (0 : Nat))] (by repeat (first | exact .nil | refine .cons rfl ?_)) (by first | exact SubL.out | repeat (first | exact .refl _ | exact List.nil_sublist _ | refine .cons_cons _ ?_ | refine .cons _ ?_ | refine .append (.refl _) ?_ | exact List.sublist_append_left _ _ | refine .trans ?_ (List.sublist_append_right _ _))) (⟨0, by omega, by omega, rfl, by rw [List.take_zero, ovr_nil]; rfl⟩) ?_
  rintro mI sI LI gL0 ⟨k, hk, rfl, rfl, rfl⟩
  refine c_seq ?_
  refine c_seq ?_
  refine c_region ?_
  refine w_mov rfl (by (conv => lhs; whnf) <;> rfl) ?_
  refine x_fa rfl (by (conv => lhs; whnf) <;> rfl) ?_
  refine x_ldo rfl (by (conv => lhs; whnf) <;> rfl) (by first | exact HasC.out | exact PutC.out) (by (conv => lhs; whnf) <;> rfl) ?_
  refine w_lss rfl (by (conv => lhs; whnf) <;> rfl) (by (conv => lhs; whnf) <;> rfl) ?_
  refine w_nil ?_
  refine tq_n ?_
  refine c_cond_d (by (conv => lhs; whnf) <;> rfl) (fun hc16 => ?_) (fun hc16 => ?_)
  · have hpi := pg_in hLi hb0 hb1 (show 0 ≤ (k : Int) by omega) hc16
    refine c_skip ?_
    refine tq_n ?_
    refine c_seq ?_
    refine c_block ?_
    refine c_seq ?_
    refine c_region ?_
    refine x_ldao rfl (by (conv => lhs; whnf) <;> rfl) (by first | exact HasC.out | exact PutC.out) rfl ?_
    refine w_mov rfl (by (conv => lhs; whnf) <;> rfl) ?_
    refine x_fa rfl (by (conv => lhs; whnf) <;> rfl) ?_
    refine x_ldo rfl (by (conv => lhs; whnf) <;> rfl) (by first | exact HasC.out | exact PutC.out) (by (conv => lhs; whnf) <;> rfl) ?_
    refine w_mul rfl (by (conv => lhs; whnf) <;> rfl) (by (conv => lhs; whnf) <;> rfl) (by omega) ?_
    refine w_mov rfl (by (conv => lhs; whnf) <;> rfl) ?_
    refine w_add rfl (by (conv => lhs; whnf) <;> rfl) (by (conv => lhs; whnf) <;> rfl) (by omega) ?_
    refine x_callp (by decide) (whereM_g (p := b * t.P + (k : Int)) (hT.sub (List.nil_sublist _)) hm hpi.2.1 hpi.2.2.1) rfl rfl rfl ?_
    refine w_mov rfl (by (conv => lhs; whnf) <;> rfl) ?_
    refine w_ext rfl (by (conv => lhs; whnf) <;> rfl) (by (conv => lhs; whnf) <;> rfl) ?_
    refine w_ext rfl (by (conv => lhs; whnf) <;> rfl) (by (conv => lhs; whnf) <;> rfl) ?_
    refine x_al rfl ?_
    intro b9
    refine x_stw rfl (by (conv => lhs; whnf) <;> rfl) (by (conv => lhs; whnf) <;> rfl) rfl rfl (by first | exact HasC.out | exact PutC.out) rfl ?_
    refine w_asg rfl (by (conv => lhs; whnf) <;> rfl) ?_
    refine w_nil ?_
    refine tq_n ?_
    refine c_region ?_
    refine x_fa rfl (by (conv => lhs; whnf) <;> rfl) ?_
    refine x_ldo rfl (by (conv => lhs; whnf) <;> rfl) (by first | exact HasC.out | exact PutC.out) (by (conv => lhs; whnf) <;> rfl) ?_
    refine w_mov rfl (by (conv => lhs; whnf) <;> rfl) ?_
    refine x_fa rfl (by (conv => lhs; whnf) <;> rfl) ?_
    refine x_ldo rfl (by (conv => lhs; whnf) <;> rfl) (by first | exact HasC.out | exact PutC.out) (by (conv => lhs; whnf) <;> rfl) ?_
    refine w_mul rfl (by (conv => lhs; whnf) <;> rfl) (by (conv => lhs; whnf) <;> rfl) (by omega) ?_
    refine w_mov rfl (by (conv => lhs; whnf) <;> rfl) ?_
    refine w_add rfl (by (conv => lhs; whnf) <;> rfl) (by (conv => lhs; whnf) <;> rfl) (by omega) ?_
    refine w_mov rfl (by (conv => lhs; whnf) <;> rfl) ?_
    refine x_ix rfl (by (conv => lhs; whnf) <;> rfl) (by (conv => lhs; whnf) <;> rfl) (by omega) (by omega) ?_
    refine x_sts rfl (by (conv => lhs; whnf) <;> rfl) (by (conv => lhs; whnf) <;> rfl) (rfl) ((by first | exact HasC.out | exact PutC.out)) (by rw [List.length_append, flatB, List.length_map, ovr_len (by rw [List.length_take, hvF_len]; omega)]; omega) ?_
    refine w_nil ?_
    refine bq_n ?_
    refine tq_n ?_
    refine c_region ?_
    refine w_mov rfl (by (conv => lhs; whnf) <;> rfl) ?_
    refine w_add rfl (by (conv => lhs; whnf) <;> rfl) (by (conv => lhs; whnf) <;> rfl) (by omega) ?_
    refine w_asg rfl (by (conv => lhs; whnf) <;> rfl) ?_
    refine w_nil ?_
    refine tq_n ?_
    have hLe := hv_ovr (t := t) (b := b) (o := (b * t.P).toNat) (k := k) (sp := spH) (by omega) (by omega)
    rw [show (b * t.P).toNat + k = (b * t.P + (k : Int)).toNat by omega] at hLe
    rw [hLe]
    exact ⟨(by repeat (first | exact Ag.refl | exact Ag.ov | (refine Ag.upd ?_ ?_; exact rfl) | refine Ag.putn ?_ | (refine Ag.ovs ?_ ?_; exact rfl))), t.P.toNat - (k + 1), [(8, .int .i64 ((k + 1 : Nat) : Int))], _, by omega, (.cons _ (List.Sublist.refl _)), (by repeat (first | exact .nil | refine .cons rfl ?_)), ⟨k + 1, by omega, rfl, rfl, rfl⟩⟩
  · have hkk : k = t.P.toNat := (by omega)
    subst hkk
    rw [List.take_of_length_le (by rw [hvF_len]; exact Nat.le_refl _)]
    refine c_exit ?_
    refine tq_e ?_
    refine tq_e ?_
    refine bq_e ?_
    refine tq_n ?_
    refine c_seq ?_
    refine c_region ?_
    refine x_fa rfl (by (conv => lhs; whnf) <;> rfl) ?_
    refine x_ldo rfl (by (conv => lhs; whnf) <;> rfl) (by first | exact HasC.out | exact PutC.out) (by (conv => lhs; whnf) <;> rfl) ?_
    refine w_mov rfl (by (conv => lhs; whnf) <;> rfl) ?_
    refine w_mov rfl (by (conv => lhs; whnf) <;> rfl) ?_
    refine x_ix rfl (by (conv => lhs; whnf) <;> rfl) (by (conv => lhs; whnf) <;> rfl) (by omega) (by omega) ?_
    refine x_sts rfl (by (conv => lhs; whnf) <;> rfl) (by (conv => lhs; whnf) <;> rfl) (rfl) ((by first | exact HasC.out | exact PutC.out)) (by simp [flatI]; omega) ?_
    refine w_nil ?_
    refine tq_n ?_
    refine c_seq ?_
    refine CWI.perm ?_ (List.Perm.trans List.perm_middle.symm (List.Perm.append_left Sv List.perm_middle.symm))
    refine c_region ?_
    refine x_ldao rfl (by (conv => lhs; whnf) <;> rfl) (by first | exact HasC.out | exact PutC.out) rfl ?_
    refine w_mov rfl (by (conv => lhs; whnf) <;> rfl) ?_
    refine x_fa rfl (by (conv => lhs; whnf) <;> rfl) ?_
    refine x_ldo rfl (by (conv => lhs; whnf) <;> rfl) (by first | exact HasC.out | exact PutC.out) (by (conv => lhs; whnf) <;> rfl) ?_
    refine w_mul rfl (by (conv => lhs; whnf) <;> rfl) (by (conv => lhs; whnf) <;> rfl) (by omega) ?_
    refine w_mov rfl (by (conv => lhs; whnf) <;> rfl) ?_
    refine x_fa rfl (by (conv => lhs; whnf) <;> rfl) ?_
    refine x_ldo rfl (by (conv => lhs; whnf) <;> rfl) (by first | exact HasC.out | exact PutC.out) (by (conv => lhs; whnf) <;> rfl) ?_
    refine w_mul rfl (by (conv => lhs; whnf) <;> rfl) (by (conv => lhs; whnf) <;> rfl) (by omega) ?_
    refine x_fa rfl (by (conv => lhs; whnf) <;> rfl) ?_
    refine x_ldo rfl (by (conv => lhs; whnf) <;> rfl) (by first | exact HasC.out | exact PutC.out) (by (conv => lhs; whnf) <;> rfl) ?_
    refine w_add rfl (by (conv => lhs; whnf) <;> rfl) (by (conv => lhs; whnf) <;> rfl) (by omega) ?_
    refine x_call (without_g hpin.1.1 ⟨_, _, _, rfl⟩ ⟨_, _, _, rfl⟩ hcl.2.2.1 g3 g4) rfl rfl rfl ?_
    rintro _ _ ⟨rfl, Sp', rfl, hW⟩
    rw [fgt_rngB (by omega)] at hW
    refine x_stw rfl (by (conv => lhs; whnf) <;> rfl) (by (conv => lhs; whnf) <;> rfl) rfl rfl (by first | exact HasC.out | exact PutC.out) rfl ?_
    refine w_nil ?_
    have gH : OSl 4 1 (.slice (some ⟨bH, 0, none⟩) t.ha.length cH) ((setT t b ph).ha.flatMap Sl.encB) (setT t b ph).ha.length [(bH, B 4 ((ovr t.ha (b * t.P).toNat (hvF t b)).flatMap Sl.encB ++ spH))] := (by show OSl 4 1 _ ((ovr t.ha (b * t.P).toNat (hvF t b)).flatMap Sl.encB) (ovr t.ha (b * t.P).toNat (hvF t b)).length _; rw [ovr_len (by rw [hvF_len]; omega)]; exact .own (by rw [flatB, List.length_map, ovr_len (by rw [hvF_len]; omega)]; omega) hcH hsH)
    have gD := data_osl (da := t.da) (o := b.toNat) (b := bD) (cap := cD) (x := ph) (sp := spD) (by omega) hcD hsD
    refine tq_n ?_
    refine c_mid_ov [58, 59, 60, 61, 62, 63, 64, 65, 66, 67, 68, 69, 70] (fun s L => ∃ oD oH, s = [] ∧ OSl 4 1 (.slice (some ⟨bH, 0, none⟩) t.ha.length cH) ((setT t b ph).ha.flatMap Sl.encB) (setT t b ph).ha.length [(bH, oH)] ∧ OSl 3 1 (.slice (some ⟨bD, 0, none⟩) t.da.length cD) ((setT t b ph).da.flatMap Sl.encI) (setT t b ph).da.length [(bD, oD)] ∧ L = Sv ++ (Sp' ++ ((b7, B 43 [.int .i64 t.P, .int .i64 t.G, .int .i64 t.K, .slice (some ⟨bD, 0, none⟩) t.da.length cD, .slice (some ⟨bH, 0, none⟩) t.ha.length cH, .int .i64 (setT t b ph).sp, .int .i64 (setT t b ph).sl, .int .i64 (setT t b ph).su, .slice Al2 t.lo.length cl2]) :: (bH, oH) :: (bD, oD) :: [(b6, B 43 zT), (b3, B 43 (cT t Ad cd Ah ch Al cl))]))) ?_ ?_
    · refine c_seq ?_
      refine c_region_j [58, 59, 60, 61, 62, 63, 64, 65, 66, 67, 68] 68 (.bool (decide (0 ≤ t.sp ∧ t.sl = b))) ?_ (fun g9 => ?_)
      · all_goals (refine x_fa rfl (by (conv => lhs; whnf) <;> rfl) ?_)
        all_goals (refine x_fa rfl (by (conv => lhs; whnf) <;> rfl) ?_)
        all_goals (refine x_ldo rfl (by (conv => lhs; whnf) <;> rfl) (by first | exact HasC.out | exact PutC.out) (by (conv => lhs; whnf) <;> rfl) ?_)
        all_goals (refine w_geq rfl (by (conv => lhs; whnf) <;> rfl) (by (conv => lhs; whnf) <;> rfl) ?_)
        all_goals (refine w_mov rfl (by (conv => lhs; whnf) <;> rfl) ?_)
        all_goals (first | refine w_lit true rfl rfl rfl ?_ | refine w_lit false rfl rfl rfl ?_ | refine w_cases_od rfl rfl rfl (fun hg => ?_) (fun hg => ?_) | refine w_cases_o rfl rfl rfl (fun hg => ?_) (fun hg => ?_) | skip)
        all_goals (first | refine w_skip rfl ?_ | (refine x_fa rfl (by (conv => lhs; whnf) <;> rfl) ?_))
        all_goals (first | refine w_skip rfl ?_ | (refine x_fa rfl (by (conv => lhs; whnf) <;> rfl) ?_))
        all_goals (first | refine w_skip rfl ?_ | (refine x_ldo rfl (by (conv => lhs; whnf) <;> rfl) (by first | exact HasC.out | exact PutC.out) (by (conv => lhs; whnf) <;> rfl) ?_))
        all_goals (first | refine w_skip rfl ?_ | (refine w_mov rfl (by (conv => lhs; whnf) <;> rfl) ?_))
        all_goals (first | refine w_skip rfl ?_ | (refine w_eql rfl (by (conv => lhs; whnf) <;> rfl) (by (conv => lhs; whnf) <;> rfl) ?_))
        all_goals (first | refine w_pick_t rfl rfl (by (conv => lhs; whnf) <;> rfl) ?_ | refine w_pick_f rfl rfl (by (conv => lhs; whnf) <;> rfl) ?_)
        all_goals (refine w_nil ?_)
        all_goals (refine jn (by first | exact (Ag.upd rfl (Ag.upd rfl (Ag.upd rfl (Ag.upd rfl (Ag.upd rfl (Ag.upd rfl (Ag.upd rfl (Ag.upd rfl (Ag.upd rfl (Ag.upd rfl (Ag.upd rfl Ag.refl))))))))))) | exact (by repeat (first | exact Ag.refl | exact Ag.ov | (refine Ag.upd ?_ ?_; exact rfl) | refine Ag.putn ?_ | (refine Ag.ovs ?_ ?_; exact rfl)))) (by (conv => lhs; whnf) <;> rfl) ?_)
        all_goals (exact congrArg Value.bool (by first | rfl | (refine decide_eq_decide.2 ?_; omega) | (refine (decide_eq_true ?_).symm; omega) | (refine (decide_eq_false ?_).symm; omega) | simp_all))
      refine tq_n ?_
      refine c_cond_d (by (conv => lhs; whnf) <;> rfl) (fun hc68 => ?_) (fun hc68 => ?_)
      · refine c_region ?_
        refine x_bld rfl (.cons (by (conv => lhs; whnf) <;> rfl) .nil) rfl ?_
        refine x_fa rfl (by (conv => lhs; whnf) <;> rfl) ?_
        refine x_stp rfl (by (conv => lhs; whnf) <;> rfl) (by (conv => lhs; whnf) <;> rfl) rfl rfl (by first | exact HasC.out | exact PutC.out) rfl ?_
        refine w_nil ?_
        refine tq_n ?_
        exact ⟨(by repeat (first | exact Ag.refl | exact Ag.ov | (refine Ag.upd ?_ ?_; exact rfl) | refine Ag.putn ?_ | (refine Ag.ovs ?_ ?_; exact rfl))), [], _, (by first | exact SubL.out | repeat (first | exact .refl _ | exact List.nil_sublist _ | refine .cons_cons _ ?_ | refine .cons _ ?_ | refine .append (.refl _) ?_ | exact List.sublist_append_left _ _ | refine .trans ?_ (List.sublist_append_right _ _))), (by repeat (first | exact .nil | refine .cons rfl ?_)), ⟨_, _, rfl, gH, gD, by first | (simp only [setT, if_pos hc68]; rfl) | simp only [setT, if_neg hc68]⟩⟩
      · refine c_skip ?_
        refine tq_n ?_
        exact ⟨(by repeat (first | exact Ag.refl | exact Ag.ov | (refine Ag.upd ?_ ?_; exact rfl) | refine Ag.putn ?_ | (refine Ag.ovs ?_ ?_; exact rfl))), [], _, (by first | exact SubL.out | repeat (first | exact .refl _ | exact List.nil_sublist _ | refine .cons_cons _ ?_ | refine .cons _ ?_ | refine .append (.refl _) ?_ | exact List.sublist_append_left _ _ | refine .trans ?_ (List.sublist_append_right _ _))), (by repeat (first | exact .nil | refine .cons rfl ?_)), ⟨_, _, rfl, gH, gD, by first | (simp only [setT, if_pos hc68]; rfl) | simp only [setT, if_neg hc68]⟩⟩
    · rintro sM LM gM ⟨oD, oH, rfl, gH', gD', rfl⟩
      refine c_seq ?_
      refine c_region ?_
      refine x_ldao rfl (by (conv => lhs; whnf) <;> rfl) (by first | exact HasC.out | exact PutC.out) rfl ?_
      refine x_stw rfl (by (conv => lhs; whnf) <;> rfl) (by (conv => lhs; whnf) <;> rfl) rfl rfl (by first | exact HasC.out | exact PutC.out) rfl ?_
      refine w_nil ?_
      refine tq_n ?_
      refine c_ret ?_
      exact rq_r (ra_c (by (conv => lhs; whnf) <;> rfl) (by first | exact HasC.out | exact PutC.out) rfl .nil) (show List.Sublist (Sv ++ (Sp' ++ [(bH, oH), (bD, oD)])) _ from (by first | exact SubL.out | repeat (first | exact .refl _ | exact List.nil_sublist _ | refine .cons_cons _ ?_ | refine .cons _ ?_ | refine .append (.refl _) ?_ | exact List.sublist_append_left _ _ | refine .trans ?_ (List.sublist_append_right _ _)))) ((tabO_tw hm'.1.cl gD' gH' (by show OSl 102 2 _ _ (fgt (inBk t.P b) t.lo).length _; rw [fgt_len]; exact g3) hW (by first | exact SubL.out | repeat (first | exact .refl _ | exact List.nil_sublist _ | refine .cons_cons _ ?_ | refine .cons _ ?_ | refine .append (.refl _) ?_ | exact List.sublist_append_left _ _ | refine .trans ?_ (List.sublist_append_right _ _))) (by first | exact SubL.out | repeat (first | exact .refl _ | exact List.nil_sublist _ | refine .cons_cons _ ?_ | refine .cons _ ?_ | refine .append (.refl _) ?_ | exact List.sublist_append_left _ _ | refine .trans ?_ (List.sublist_append_right _ _))) (by first | exact SubL.out | repeat (first | exact .refl _ | exact List.nil_sublist _ | refine .cons_cons _ ?_ | refine .cons _ ?_ | refine .append (.refl _) ?_ | exact List.sublist_append_left _ _ | refine .trans ?_ (List.sublist_append_right _ _))) (by first | exact SubL.out | repeat (first | exact .refl _ | exact List.nil_sublist _ | refine .cons_cons _ ?_ | refine .cons _ ?_ | refine .append (.refl _) ?_ | exact List.sublist_append_left _ _ | refine .trans ?_ (List.sublist_append_right _ _)))))
theorem foldedr_g {v : Value} {t : Tb} {b ph : Int} (h : TabR w0 L v t) : Gives Try.prog w0 L 41 [v, .int .i64 b, .int .i64 ph] (fun v' L' => ∃ S, L' = S ++ L ∧ FdR (folded t b ph) v' S) := by
  refine enterB (R := FdR (folded t b ph)) Try.func41 rfl Try.ntmps41 Try.results41 (Nat.le_of_ble_eq_true rfl) fun w hM => ?_
  have hT := h.at hM
  obtain ⟨vd, vh, vl, rfl, hd, hh, hlo⟩ := ((h).at hM).ex; obtain ⟨Ad, cd, rfl, hdc, hdl, hdA, hdR⟩ := id hd.ex; obtain ⟨Ah, ch, rfl, hhc, hhl, hhA, hhR⟩ := id hh.ex; obtain ⟨Al, cl, rfl, hlc, hll, hlA, hlR⟩ := LogR.opn hlo
  clear hM
  refine c_seq ?_
  refine c_region ?_
  refine x_boxa rfl (by (conv => lhs; whnf) <;> rfl) ?_
  intro b3
  refine x_al rfl ?_
  intro b6
  refine w_asg rfl (by (conv => lhs; whnf) <;> rfl) ?_
  refine w_asg rfl (by (conv => lhs; whnf) <;> rfl) ?_
  refine w_nil ?_
  refine tq_n ?_
  refine c_seq ?_
  refine c_seq ?_
  refine c_region ?_
  refine x_ldao rfl (by (conv => lhs; whnf) <;> rfl) (by first | exact HasC.out | exact PutC.out) rfl ?_
  refine x_callp (by decide) (checkr_g (hT.sub (List.nil_sublist _))) rfl rfl rfl ?_
  refine w_asg rfl (by (conv => lhs; whnf) <;> rfl) ?_
  refine w_nil ?_
  refine tq_n ?_
  refine c_seq ?_
  refine c_region ?_
  refine w_mov rfl (by (conv => lhs; whnf) <;> rfl) ?_
  refine w_neq rfl (by (conv => lhs; whnf) <;> rfl) (by (conv => lhs; whnf) <;> rfl) ?_
  refine w_nil ?_
  refine tq_n ?_
  refine c_cond_d (by (conv => lhs; whnf) <;> rfl) (fun hc14 => ?_) (fun hc14 => ?_)
  · have hm : ¬ May t := fun hm => hc14 (if_pos hm)
    refine c_seq ?_
    refine c_region ?_
    refine x_bld rfl .nil rfl ?_
    refine w_mov rfl (by (conv => lhs; whnf) <;> rfl) ?_
    refine x_stw rfl (by (conv => lhs; whnf) <;> rfl) (by (conv => lhs; whnf) <;> rfl) rfl rfl (by first | exact HasC.out | exact PutC.out) rfl ?_
    refine w_asg rfl (by (conv => lhs; whnf) <;> rfl) ?_
    refine w_asg rfl (by (conv => lhs; whnf) <;> rfl) ?_
    refine w_nil ?_
    refine tq_n ?_
    refine c_ret ?_
    refine tq_r ?_
    exact rq_r (ra_c (by (conv => lhs; whnf) <;> rfl) (by first | exact HasC.out | exact PutC.out) rfl (ra_t (by (conv => lhs; whnf) <;> rfl) (ra_t (by (conv => lhs; whnf) <;> rfl) .nil))) (List.nil_sublist _) (FdR_inl (e := 50) (by unfold folded; simp only [if_neg hm]) (by simp only [if_neg hm]; rfl))
  · have hm : May t := Decidable.byContradiction fun hm => hc14 (by rw [if_neg hm]; decide)
    refine c_skip ?_
    refine tq_n ?_
    refine c_seq ?_
    refine c_seq ?_
    refine c_region_j [17, 18, 19, 20, 21, 22, 23, 24, 25, 26, 27, 28, 29, 30] 30 (.bool (decide (¬ ((0 ≤ b ∧ b ≤ t.G - 1) ∧ frsh t ph)))) ?_ (fun g4 => ?_)
    · all_goals (refine w_mov rfl (by (conv => lhs; whnf) <;> rfl) ?_)
      all_goals (refine w_lss rfl (by (conv => lhs; whnf) <;> rfl) (by (conv => lhs; whnf) <;> rfl) ?_)
      all_goals (refine w_mov rfl (by (conv => lhs; whnf) <;> rfl) ?_)
      all_goals (first | refine w_lit true rfl rfl rfl ?_ | refine w_lit false rfl rfl rfl ?_ | refine w_cases_od rfl rfl rfl (fun hg => ?_) (fun hg => ?_) | refine w_cases_o rfl rfl rfl (fun hg => ?_) (fun hg => ?_) | skip)
      all_goals (first | refine w_skip rfl ?_ | (refine w_mov rfl (by (conv => lhs; whnf) <;> rfl) ?_))
      all_goals (first | refine w_skip rfl ?_ | (refine x_fa rfl (by (conv => lhs; whnf) <;> rfl) ?_))
      all_goals (first | refine w_skip rfl ?_ | (refine x_ldo rfl (by (conv => lhs; whnf) <;> rfl) (by first | exact HasC.out | exact PutC.out) (by (conv => lhs; whnf) <;> rfl) ?_))
      all_goals (first | refine w_skip rfl ?_ | (refine w_geq rfl (by (conv => lhs; whnf) <;> rfl) (by (conv => lhs; whnf) <;> rfl) ?_))
      all_goals (first | refine w_pick_t rfl rfl (by (conv => lhs; whnf) <;> rfl) ?_ | refine w_pick_f rfl rfl (by (conv => lhs; whnf) <;> rfl) ?_)
      all_goals (refine w_mov rfl (by (conv => lhs; whnf) <;> rfl) ?_)
      all_goals (first | refine w_lit true rfl rfl rfl ?_ | refine w_lit false rfl rfl rfl ?_ | refine w_cases_od rfl rfl rfl (fun hg => ?_) (fun hg => ?_) | refine w_cases_o rfl rfl rfl (fun hg => ?_) (fun hg => ?_) | skip)
      all_goals (first | refine w_skip rfl ?_ | (refine x_ldao rfl (by (conv => lhs; whnf) <;> rfl) (by first | exact HasC.out | exact PutC.out) rfl ?_))
      all_goals (first | refine w_skip rfl ?_ | (refine w_mov rfl (by (conv => lhs; whnf) <;> rfl) ?_))
      all_goals (first | refine w_skip rfl ?_ | (refine x_callp (by decide) (freshr_g (hT.sub (List.nil_sublist _)) hm) rfl rfl rfl ?_))
      all_goals (first | refine w_skip rfl ?_ | (refine w_notd rfl (by (conv => lhs; whnf) <;> rfl) ?_))
      all_goals (first | refine w_pick_t rfl rfl (by (conv => lhs; whnf) <;> rfl) ?_ | refine w_pick_f rfl rfl (by (conv => lhs; whnf) <;> rfl) ?_)
      all_goals (refine w_nil ?_)
      all_goals (refine jn (by first | exact (Ag.upd rfl (Ag.upd rfl (Ag.upd rfl (Ag.upd rfl (Ag.upd rfl (Ag.upd rfl (Ag.upd rfl (Ag.upd rfl (Ag.upd rfl (Ag.upd rfl (Ag.upd rfl (Ag.upd rfl (Ag.upd rfl (Ag.upd rfl Ag.refl)))))))))))))) | exact (by repeat (first | exact Ag.refl | exact Ag.ov | (refine Ag.upd ?_ ?_; exact rfl) | refine Ag.putn ?_ | (refine Ag.ovs ?_ ?_; exact rfl)))) (by (conv => lhs; whnf) <;> rfl) ?_)
      all_goals (exact congrArg Value.bool (by first | (refine Eq.symm (decide_eq_true ?_); exact fun h => by have := h.1; omega) | exact decide_eq_decide.2 ⟨fun h hh => h hh.2, fun h hf => h ⟨by omega, hf⟩⟩))
    refine tq_n ?_
    refine c_cond_d (by (conv => lhs; whnf) <;> rfl) (fun hc30 => ?_) (fun hc30 => ?_)
    · refine c_seq ?_
      refine c_region ?_
      refine x_bld rfl .nil rfl ?_
      refine x_stw rfl (by (conv => lhs; whnf) <;> rfl) (by (conv => lhs; whnf) <;> rfl) rfl rfl (by first | exact HasC.out | exact PutC.out) rfl ?_
      refine w_asg rfl (by (conv => lhs; whnf) <;> rfl) ?_
      refine w_asg rfl (by (conv => lhs; whnf) <;> rfl) ?_
      refine w_nil ?_
      refine tq_n ?_
      refine c_ret ?_
      refine tq_r ?_
      exact rq_r (ra_c (by (conv => lhs; whnf) <;> rfl) (by first | exact HasC.out | exact PutC.out) rfl (ra_t (by (conv => lhs; whnf) <;> rfl) (ra_t (by (conv => lhs; whnf) <;> rfl) .nil))) (List.nil_sublist _) (FdR_inl (e := 1) (by unfold folded; simp only [if_pos hm, if_neg hc30]) rfl)
    · have hin := Decidable.not_not.1 hc30
      have hm2 := may_set hm hin.1.1 hin.1.2 (.inl hin.2)
      have hfd : folded t b ph = .inr (setT t b ph, goneL t (setT t b ph)) := (by unfold folded; simp only [if_pos hm, if_pos hin])
      refine c_skip ?_
      refine tq_n ?_
      refine c_seq ?_
      refine c_region ?_
      refine x_ldao rfl (by (conv => lhs; whnf) <;> rfl) (by first | exact HasC.out | exact PutC.out) rfl ?_
      refine w_mov rfl (by (conv => lhs; whnf) <;> rfl) ?_
      refine w_mov rfl (by (conv => lhs; whnf) <;> rfl) ?_
      refine x_call (movedr_g (hT.sub (List.nil_sublist _)) hm hin.1.1 hin.1.2 hm2) rfl rfl rfl ?_
      rintro _ _ ⟨S79, rfl, hO⟩
      obtain ⟨c0, c1, c2, c3, c4, c5, c6, c7, c8, rfl, ho⟩ := tabO_cells hO
      refine x_al rfl ?_
      intro b10
      refine x_stw rfl (by (conv => lhs; whnf) <;> rfl) (by (conv => lhs; whnf) <;> rfl) (rfl) (ho) (by first | exact HasC.out | exact PutC.out) (by exact rfl) ?_
      refine w_nil ?_
      refine tq_n ?_
      refine c_seq ?_
      refine d_begin_s ((show List.Sublist [(b10, _), (b3, _)] _ from (by first | exact SubL.out | repeat (first | exact .refl _ | exact List.nil_sublist _ | refine .cons_cons _ ?_ | refine .cons _ ?_ | refine .append (.refl _) ?_ | exact List.sublist_append_left _ _ | refine .trans ?_ (List.sublist_append_right _ _))))) [] mixed ?_
      refine d_tk 0 (np_then np_ret) rfl (by kernel_rfl) (by kernel_rfl) (by kernel_rfl) (by kernel_rfl) (by kernel_rfl) (by first | exact SubL.out | repeat (first | exact .refl _ | exact List.nil_sublist _ | refine .cons_cons _ ?_ | refine .cons _ ?_ | refine .append (.refl _) ?_ | exact List.sublist_append_left _ _ | refine .trans ?_ (List.sublist_append_right _ _))) ?_
      refine x_ldao rfl (by (conv => lhs; whnf) <;> rfl) (by first | exact HasC.out | exact PutC.out) rfl ?_
      refine w_nil ⟨rfl, rfl, ?_⟩
      refine d_tk 1 (np_then np_ret) rfl (by kernel_rfl) (by kernel_rfl) (by kernel_rfl) (by kernel_rfl) (by kernel_rfl) (by first | exact SubL.out | repeat (first | exact .refl _ | exact List.nil_sublist _ | refine .cons_cons _ ?_ | refine .cons _ ?_ | refine .append (.refl _) ?_ | exact List.sublist_append_left _ _ | refine .trans ?_ (List.sublist_append_right _ _))) ?_
      refine x_ldao rfl (by (conv => lhs; whnf) <;> rfl) (by first | exact HasC.out | exact PutC.out) rfl ?_
      refine w_nil ⟨rfl, rfl, ?_⟩
      refine d_tk 2 (np_then np_ret) rfl (by kernel_rfl) (by kernel_rfl) (by kernel_rfl) (by kernel_rfl) (by kernel_rfl) (by first | exact SubL.out | repeat (first | exact .refl _ | exact List.nil_sublist _ | refine .cons_cons _ ?_ | refine .cons _ ?_ | refine .append (.refl _) ?_ | exact List.sublist_append_left _ _ | refine .trans ?_ (List.sublist_append_right _ _))) ?_
      refine x_ldao rfl (by (conv => lhs; whnf) <;> rfl) (by first | exact HasC.out | exact PutC.out) rfl ?_
      refine w_nil ⟨rfl, rfl, ?_⟩
      refine d_one 3 rfl (by kernel_rfl) ?_
      refine x_call (goner_g (hT.sub (List.nil_sublist _)) (hO.use (by first | exact SubL.out | repeat (first | exact .refl _ | exact List.nil_sublist _ | refine .cons_cons _ ?_ | refine .cons _ ?_ | refine .append (.refl _) ?_ | exact List.sublist_append_left _ _ | refine .trans ?_ (List.sublist_append_right _ _)))) hm hm2) rfl rfl rfl ?_
      rintro _ _ ⟨S80, rfl, hG⟩
      obtain ⟨A8, c80, rfl, _⟩ := hG.form
      refine w_nil ⟨rfl, (.inl (by first | exact SubL.out | repeat (first | exact .refl _ | exact List.nil_sublist _ | refine .cons_cons _ ?_ | refine .cons _ ?_ | refine .append (.refl _) ?_ | exact List.sublist_append_left _ _ | refine .trans ?_ (List.sublist_append_right _ _)))), ?_⟩
      refine d_one 4 rfl (by kernel_rfl) ?_
      refine x_stw rfl (by (conv => lhs; whnf) <;> rfl) (by (conv => lhs; whnf) <;> rfl) (rfl) (ho) (by first | exact HasC.out | exact PutC.out) (by exact rfl) ?_
      refine w_nil ⟨rfl, (.inl (by first | exact SubL.out | repeat (first | exact .refl _ | exact List.nil_sublist _ | refine .cons_cons _ ?_ | refine .cons _ ?_ | refine .append (.refl _) ?_ | exact List.sublist_append_left _ _ | refine .trans ?_ (List.sublist_append_right _ _)))), ?_⟩
      refine d_tk0 5 (np_then np_ret) rfl (by kernel_rfl) (by kernel_rfl) (by kernel_rfl) (by kernel_rfl) (.inl (by first | exact SubL.out | repeat (first | exact .refl _ | exact List.nil_sublist _ | refine .cons_cons _ ?_ | refine .cons _ ?_ | refine .append (.refl _) ?_ | exact List.sublist_append_left _ _ | refine .trans ?_ (List.sublist_append_right _ _)))) ?_
      refine w_asg rfl (by (conv => lhs; whnf) <;> rfl) ?_
      refine w_nil ⟨rfl, rfl, ?_⟩
      refine d_tk0 6 (np_then np_ret) rfl (by kernel_rfl) (by kernel_rfl) (by kernel_rfl) (by kernel_rfl) (.inl (by first | exact SubL.out | repeat (first | exact .refl _ | exact List.nil_sublist _ | refine .cons_cons _ ?_ | refine .cons _ ?_ | refine .append (.refl _) ?_ | exact List.sublist_append_left _ _ | refine .trans ?_ (List.sublist_append_right _ _)))) ?_
      refine w_asg rfl (by (conv => lhs; whnf) <;> rfl) ?_
      refine w_nil ⟨rfl, rfl, ?_⟩
      refine d_done (by kernel_rfl) ?_
      refine tq_n ?_
      refine c_ret ?_
      exact rq_r (ra_c (by (conv => lhs; whnf) <;> rfl) (by first | exact HasC.out | exact PutC.out) rfl (ra_t (by (conv => lhs; whnf) <;> rfl) (ra_t (by (conv => lhs; whnf) <;> rfl) .nil))) (by first | exact SubL.out | repeat (first | exact .refl _ | exact List.nil_sublist _ | refine .cons_cons _ ?_ | refine .cons _ ?_ | refine .append (.refl _) ?_ | exact List.sublist_append_left _ _ | refine .trans ?_ (List.sublist_append_right _ _))) (FdR_inr (S := S80 ++ S79) hfd rfl rfl (fun w0 L hs => hO w0 L (List.Sublist.trans (List.sublist_append_right _ _) hs)) (fun w0 L hs => SlR.ofOSl (by rw [flatI]; exact hG) rfl (by have := usedL_len hm.1; have := List.length_filter_le (fun x => !(memB (srt (usedL (setT t b ph))) x)) (srt (usedL t)); rw [len_srt] at this; unfold goneL; omega) (List.Sublist.trans (List.sublist_append_left _ _) hs)))
theorem switchedr_g {v : Value} {t : Tb} (h : TabR w0 L v t) : Gives Try.prog w0 L 43 [v] (fun v' L' => ∃ S, L' = S ++ L ∧ FdR (switched t) v' S) := by
  refine enterB (R := FdR (switched t)) Try.func43 rfl Try.ntmps43 Try.results43 (Nat.le_of_ble_eq_true rfl) fun w hM => ?_
  have hT := h.at hM
  obtain ⟨vd, vh, vl, rfl, hd, hh, hlo⟩ := ((h).at hM).ex; obtain ⟨Ad, cd, rfl, hdc, hdl, hdA, hdR⟩ := id hd.ex; obtain ⟨Ah, ch, rfl, hhc, hhl, hhA, hhR⟩ := id hh.ex; obtain ⟨Al, cl, rfl, hlc, hll, hlA, hlR⟩ := LogR.opn hlo
  clear hM
  refine c_seq ?_
  refine c_region ?_
  refine x_boxa rfl (by (conv => lhs; whnf) <;> rfl) ?_
  intro b1
  refine x_al rfl ?_
  intro b2
  refine w_asg rfl (by (conv => lhs; whnf) <;> rfl) ?_
  refine w_asg rfl (by (conv => lhs; whnf) <;> rfl) ?_
  refine w_nil ?_
  refine tq_n ?_
  refine c_seq ?_
  refine c_seq ?_
  refine c_region ?_
  refine x_ldao rfl (by (conv => lhs; whnf) <;> rfl) (by first | exact HasC.out | exact PutC.out) rfl ?_
  refine x_callp (by decide) (checkr_g (hT.sub (List.nil_sublist _))) rfl rfl rfl ?_
  refine w_asg rfl (by (conv => lhs; whnf) <;> rfl) ?_
  refine w_nil ?_
  refine tq_n ?_
  refine c_seq ?_
  refine c_region ?_
  refine w_mov rfl (by (conv => lhs; whnf) <;> rfl) ?_
  refine w_neq rfl (by (conv => lhs; whnf) <;> rfl) (by (conv => lhs; whnf) <;> rfl) ?_
  refine w_nil ?_
  refine tq_n ?_
  refine c_cond_d (by (conv => lhs; whnf) <;> rfl) (fun hc10 => ?_) (fun hc10 => ?_)
  · have hm : ¬ May t := fun hm => hc10 (if_pos hm)
    refine c_seq ?_
    refine c_region ?_
    refine x_bld rfl .nil rfl ?_
    refine w_mov rfl (by (conv => lhs; whnf) <;> rfl) ?_
    refine x_stw rfl (by (conv => lhs; whnf) <;> rfl) (by (conv => lhs; whnf) <;> rfl) rfl rfl (by first | exact HasC.out | exact PutC.out) rfl ?_
    refine w_asg rfl (by (conv => lhs; whnf) <;> rfl) ?_
    refine w_asg rfl (by (conv => lhs; whnf) <;> rfl) ?_
    refine w_nil ?_
    refine tq_n ?_
    refine c_ret ?_
    refine tq_r ?_
    exact rq_r (ra_c (by (conv => lhs; whnf) <;> rfl) (by first | exact HasC.out | exact PutC.out) rfl (ra_t (by (conv => lhs; whnf) <;> rfl) (ra_t (by (conv => lhs; whnf) <;> rfl) .nil))) (List.nil_sublist _) (FdR_inl (e := 50) (by unfold switched; simp only [if_neg hm]) (by simp only [if_neg hm]; rfl))
  · have hm : May t := Decidable.byContradiction fun hm => hc10 (by rw [if_neg hm]; decide)
    have hLi := hm.1
    have hsu : (t.sp = -1 ∧ t.sl = 0 ∧ t.su = 0) ∨ ((0 ≤ t.sp ∧ t.sp ≤ 255) ∧ (0 ≤ t.sl ∧ t.sl ≤ t.G - 1) ∧ 0 ≤ t.su ∧ t.su ≤ t.P) := hLi.2.2
    refine c_skip ?_
    refine tq_n ?_
    refine c_seq ?_
    refine c_seq ?_
    refine c_region_j [13, 14, 15, 16, 17, 18, 19, 20] 20 (.bool (decide (t.sp < 0 ∨ lgd t = true))) ?_ (fun g4 => ?_)
    · all_goals (refine x_fa rfl (by (conv => lhs; whnf) <;> rfl) ?_)
      all_goals (refine x_fa rfl (by (conv => lhs; whnf) <;> rfl) ?_)
      all_goals (refine x_ldo rfl (by (conv => lhs; whnf) <;> rfl) (by first | exact HasC.out | exact PutC.out) (by (conv => lhs; whnf) <;> rfl) ?_)
      all_goals (refine w_lss rfl (by (conv => lhs; whnf) <;> rfl) (by (conv => lhs; whnf) <;> rfl) ?_)
      all_goals (refine w_mov rfl (by (conv => lhs; whnf) <;> rfl) ?_)
      all_goals (first | refine w_lit true rfl rfl rfl ?_ | refine w_lit false rfl rfl rfl ?_ | refine w_cases_od rfl rfl rfl (fun hg => ?_) (fun hg => ?_) | refine w_cases_o rfl rfl rfl (fun hg => ?_) (fun hg => ?_) | skip)
      all_goals (first | refine w_skip rfl ?_ | (refine x_ldao rfl (by (conv => lhs; whnf) <;> rfl) (by first | exact HasC.out | exact PutC.out) rfl ?_))
      all_goals (first | refine w_skip rfl ?_ | (refine x_callp (by decide) (overr_g (hT.sub (List.nil_sublist _)) hLi) rfl rfl rfl ?_))
      all_goals (first | refine w_pick_t rfl rfl (by (conv => lhs; whnf) <;> rfl) ?_ | refine w_pick_f rfl rfl (by (conv => lhs; whnf) <;> rfl) ?_)
      all_goals (refine w_nil ?_)
      all_goals (refine jn (by first | exact (Ag.upd rfl (Ag.upd rfl (Ag.upd rfl (Ag.upd rfl (Ag.upd rfl (Ag.upd rfl (Ag.upd rfl (Ag.upd rfl Ag.refl)))))))) | exact (by repeat (first | exact Ag.refl | exact Ag.ov | (refine Ag.upd ?_ ?_; exact rfl) | refine Ag.putn ?_ | (refine Ag.ovs ?_ ?_; exact rfl)))) (by (conv => lhs; whnf) <;> rfl) ?_)
      all_goals (exact congrArg Value.bool (by first | exact (decide_eq_true (Or.inl hg)).symm | exact decide_eq_decide.2 ⟨.inr, fun h => h.resolve_left hg⟩))
    refine tq_n ?_
    refine c_cond_d (by (conv => lhs; whnf) <;> rfl) (fun hc20 => ?_) (fun hc20 => ?_)
    · refine c_seq ?_
      refine c_region ?_
      refine x_bld rfl .nil rfl ?_
      refine x_stw rfl (by (conv => lhs; whnf) <;> rfl) (by (conv => lhs; whnf) <;> rfl) rfl rfl (by first | exact HasC.out | exact PutC.out) rfl ?_
      refine w_asg rfl (by (conv => lhs; whnf) <;> rfl) ?_
      refine w_asg rfl (by (conv => lhs; whnf) <;> rfl) ?_
      refine w_nil ?_
      refine tq_n ?_
      refine c_ret ?_
      refine tq_r ?_
      exact rq_r (ra_c (by (conv => lhs; whnf) <;> rfl) (by first | exact HasC.out | exact PutC.out) rfl (ra_t (by (conv => lhs; whnf) <;> rfl) (ra_t (by (conv => lhs; whnf) <;> rfl) .nil))) (List.nil_sublist _) (FdR_inl (e := 51) (by unfold switched; simp only [if_pos hm, if_pos hc20]) rfl)
    · have hsp : ¬ t.sp < 0 := (fun h => hc20 (.inl h))
      have hm2 := may_set hm (show 0 ≤ t.sl by omega) (show t.sl ≤ t.G - 1 by omega) (.inr ⟨rfl, rfl, by omega⟩ : frsh t t.sp ∨ (t.sp = t.sp ∧ t.sl = t.sl ∧ 0 ≤ t.sp))
      have hfd : switched t = .inr (setT t t.sl t.sp, goneL t (setT t t.sl t.sp)) := (by unfold switched; simp only [if_pos hm, if_neg hc20])
      refine c_skip ?_
      refine tq_n ?_
      refine c_seq ?_
      refine c_region ?_
      refine x_ldao rfl (by (conv => lhs; whnf) <;> rfl) (by first | exact HasC.out | exact PutC.out) rfl ?_
      refine x_fa rfl (by (conv => lhs; whnf) <;> rfl) ?_
      refine x_fa rfl (by (conv => lhs; whnf) <;> rfl) ?_
      refine x_ldo rfl (by (conv => lhs; whnf) <;> rfl) (by first | exact HasC.out | exact PutC.out) (by (conv => lhs; whnf) <;> rfl) ?_
      refine x_fa rfl (by (conv => lhs; whnf) <;> rfl) ?_
      refine x_fa rfl (by (conv => lhs; whnf) <;> rfl) ?_
      refine x_ldo rfl (by (conv => lhs; whnf) <;> rfl) (by first | exact HasC.out | exact PutC.out) (by (conv => lhs; whnf) <;> rfl) ?_
      refine x_call (movedr_g (hT.sub (List.nil_sublist _)) hm (by omega) (by omega) hm2) rfl rfl rfl ?_
      rintro _ _ ⟨S79, rfl, hO⟩
      obtain ⟨c0, c1, c2, c3, c4, c5, c6, c7, c8, rfl, ho⟩ := tabO_cells hO
      refine x_al rfl ?_
      intro b6
      refine x_stw rfl (by (conv => lhs; whnf) <;> rfl) (by (conv => lhs; whnf) <;> rfl) (rfl) (ho) (by first | exact HasC.out | exact PutC.out) (by exact rfl) ?_
      refine w_nil ?_
      refine tq_n ?_
      refine c_seq ?_
      refine d_begin_s ((show List.Sublist [(b6, _), (b1, _)] _ from (by first | exact SubL.out | repeat (first | exact .refl _ | exact List.nil_sublist _ | refine .cons_cons _ ?_ | refine .cons _ ?_ | refine .append (.refl _) ?_ | exact List.sublist_append_left _ _ | refine .trans ?_ (List.sublist_append_right _ _))))) [] mixed ?_
      refine d_tk 0 (np_then np_ret) rfl (by kernel_rfl) (by kernel_rfl) (by kernel_rfl) (by kernel_rfl) (by kernel_rfl) (by first | exact SubL.out | repeat (first | exact .refl _ | exact List.nil_sublist _ | refine .cons_cons _ ?_ | refine .cons _ ?_ | refine .append (.refl _) ?_ | exact List.sublist_append_left _ _ | refine .trans ?_ (List.sublist_append_right _ _))) ?_
      refine x_ldao rfl (by (conv => lhs; whnf) <;> rfl) (by first | exact HasC.out | exact PutC.out) rfl ?_
      refine w_nil ⟨rfl, rfl, ?_⟩
      refine d_tk 1 (np_then np_ret) rfl (by kernel_rfl) (by kernel_rfl) (by kernel_rfl) (by kernel_rfl) (by kernel_rfl) (by first | exact SubL.out | repeat (first | exact .refl _ | exact List.nil_sublist _ | refine .cons_cons _ ?_ | refine .cons _ ?_ | refine .append (.refl _) ?_ | exact List.sublist_append_left _ _ | refine .trans ?_ (List.sublist_append_right _ _))) ?_
      refine x_ldao rfl (by (conv => lhs; whnf) <;> rfl) (by first | exact HasC.out | exact PutC.out) rfl ?_
      refine w_nil ⟨rfl, rfl, ?_⟩
      refine d_tk 2 (np_then np_ret) rfl (by kernel_rfl) (by kernel_rfl) (by kernel_rfl) (by kernel_rfl) (by kernel_rfl) (by first | exact SubL.out | repeat (first | exact .refl _ | exact List.nil_sublist _ | refine .cons_cons _ ?_ | refine .cons _ ?_ | refine .append (.refl _) ?_ | exact List.sublist_append_left _ _ | refine .trans ?_ (List.sublist_append_right _ _))) ?_
      refine x_ldao rfl (by (conv => lhs; whnf) <;> rfl) (by first | exact HasC.out | exact PutC.out) rfl ?_
      refine w_nil ⟨rfl, rfl, ?_⟩
      refine d_one 3 rfl (by kernel_rfl) ?_
      refine x_call (goner_g (hT.sub (List.nil_sublist _)) (hO.use (by first | exact SubL.out | repeat (first | exact .refl _ | exact List.nil_sublist _ | refine .cons_cons _ ?_ | refine .cons _ ?_ | refine .append (.refl _) ?_ | exact List.sublist_append_left _ _ | refine .trans ?_ (List.sublist_append_right _ _)))) hm hm2) rfl rfl rfl ?_
      rintro _ _ ⟨S80, rfl, hG⟩
      obtain ⟨A8, c80, rfl, _⟩ := hG.form
      refine w_nil ⟨rfl, (.inl (by first | exact SubL.out | repeat (first | exact .refl _ | exact List.nil_sublist _ | refine .cons_cons _ ?_ | refine .cons _ ?_ | refine .append (.refl _) ?_ | exact List.sublist_append_left _ _ | refine .trans ?_ (List.sublist_append_right _ _)))), ?_⟩
      refine d_one 4 rfl (by kernel_rfl) ?_
      refine x_stw rfl (by (conv => lhs; whnf) <;> rfl) (by (conv => lhs; whnf) <;> rfl) (rfl) (ho) (by first | exact HasC.out | exact PutC.out) (by exact rfl) ?_
      refine w_nil ⟨rfl, (.inl (by first | exact SubL.out | repeat (first | exact .refl _ | exact List.nil_sublist _ | refine .cons_cons _ ?_ | refine .cons _ ?_ | refine .append (.refl _) ?_ | exact List.sublist_append_left _ _ | refine .trans ?_ (List.sublist_append_right _ _)))), ?_⟩
      refine d_tk0 5 (np_then np_ret) rfl (by kernel_rfl) (by kernel_rfl) (by kernel_rfl) (by kernel_rfl) (.inl (by first | exact SubL.out | repeat (first | exact .refl _ | exact List.nil_sublist _ | refine .cons_cons _ ?_ | refine .cons _ ?_ | refine .append (.refl _) ?_ | exact List.sublist_append_left _ _ | refine .trans ?_ (List.sublist_append_right _ _)))) ?_
      refine w_asg rfl (by (conv => lhs; whnf) <;> rfl) ?_
      refine w_nil ⟨rfl, rfl, ?_⟩
      refine d_tk0 6 (np_then np_ret) rfl (by kernel_rfl) (by kernel_rfl) (by kernel_rfl) (by kernel_rfl) (.inl (by first | exact SubL.out | repeat (first | exact .refl _ | exact List.nil_sublist _ | refine .cons_cons _ ?_ | refine .cons _ ?_ | refine .append (.refl _) ?_ | exact List.sublist_append_left _ _ | refine .trans ?_ (List.sublist_append_right _ _)))) ?_
      refine w_asg rfl (by (conv => lhs; whnf) <;> rfl) ?_
      refine w_nil ⟨rfl, rfl, ?_⟩
      refine d_done (by kernel_rfl) ?_
      refine tq_n ?_
      refine c_ret ?_
      exact rq_r (ra_c (by (conv => lhs; whnf) <;> rfl) (by first | exact HasC.out | exact PutC.out) rfl (ra_t (by (conv => lhs; whnf) <;> rfl) (ra_t (by (conv => lhs; whnf) <;> rfl) .nil))) (by first | exact SubL.out | repeat (first | exact .refl _ | exact List.nil_sublist _ | refine .cons_cons _ ?_ | refine .cons _ ?_ | refine .append (.refl _) ?_ | exact List.sublist_append_left _ _ | refine .trans ?_ (List.sublist_append_right _ _))) (FdR_inr (S := S80 ++ S79) hfd rfl rfl (fun w0 L hs => hO w0 L (List.Sublist.trans (List.sublist_append_right _ _) hs)) (fun w0 L hs => SlR.ofOSl (by rw [flatI]; exact hG) rfl (by have := usedL_len hm.1; have := List.length_filter_le (fun x => !(memB (srt (usedL (setT t t.sl t.sp))) x)) (srt (usedL t)); rw [len_srt] at this; unfold goneL; omega) (List.Sublist.trans (List.sublist_append_left _ _) hs)))
end
end Go.Proofs.Ytnmhhelcaibdoaa.Pl
