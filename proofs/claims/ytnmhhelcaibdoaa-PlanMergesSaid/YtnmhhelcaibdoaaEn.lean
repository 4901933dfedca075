/- The reference's Dropped; what calls that answer tables answer in any case. -/
import Derived.Test.YtnmhhelcaibdoaaEe
import Derived.Test.YtnmhhelcaibdoaaPs
import Derived.Test.YtnmhhelcaibdoaaVf
namespace Go.Proofs.Ytnmhhelcaibdoaa.Pl
open Go Go.RowKit Sl
set_option linter.unusedVariables false
set_option linter.unusedSimpArgs false
def tbz : Tb := ⟨0, 0, 0, [], [], 0, 0, 0, []⟩
theorem slz_nil {α : Type} {enc : α → List Value} {w0 : World} {L : Own} : SlR w0 L enc (.slice none 0 0) [] := ⟨none, 0, rfl, Nat.le_refl _, by simp, fun h => absurd rfl h, fun i c h => by simp at h⟩
theorem tabO_zz {S : Own} : TabO S (.agg zT.toArray) tbz := fun w0 L _ => ⟨_, _, _, rfl, slz_nil, slz_nil, logR_nil⟩
def zE {α : Type} : Sum Int α → Int
  | .inl e => e
  | .inr _ => 0
def zV {α β : Type} (z : β) (f : α → β) : Sum Int α → β
  | .inl _ => z
  | .inr a => f a
theorem DrR_tb {x : Sum Int (Tb × Int)} {v : Value} {S : Own} (h : DrR x v S) : ∃ c0 c1 c2 c3 c4 c5 c6 c7 c8, v = .tuple #[.agg #[c0, c1, c2, c3, c4, c5, c6, c7, c8], .int .i64 (zV 0 (fun y => y.2) x), .int .i64 (zE x)] ∧ [c0, c1, c2, c3, c4, c5, c6, c7, c8].all Value.oneCell' = true ∧ TabO S (.agg #[c0, c1, c2, c3, c4, c5, c6, c7, c8]) (zV tbz (fun y => y.1) x) := by
  cases x with
  | inl e => exact ⟨_, _, _, _, _, _, _, _, _, h, rfl, tabO_zz⟩
  | inr t =>
    obtain ⟨t, a⟩ := t
    obtain ⟨tv, rfl, hO⟩ := h
    obtain ⟨c0, c1, c2, c3, c4, c5, c6, c7, c8, rfl, ho⟩ := tabO_cells hO
    exact ⟨_, _, _, _, _, _, _, _, _, rfl, ho, hO⟩
theorem FdR_tb {x : Sum Int (Tb × List Int)} {v : Value} {S : Own} (h : FdR x v S) : ∃ c0 c1 c2 c3 c4 c5 c6 c7 c8 lv, v = .tuple #[.agg #[c0, c1, c2, c3, c4, c5, c6, c7, c8], lv, .int .i64 (zE x)] ∧ [c0, c1, c2, c3, c4, c5, c6, c7, c8].all Value.oneCell' = true ∧ lv.oneCell' = true ∧ TabO S (.agg #[c0, c1, c2, c3, c4, c5, c6, c7, c8]) (zV tbz (fun y => y.1) x) ∧ FL S lv (zV [] (fun y => y.2) x) := by
  cases x with
  | inl e => exact ⟨_, _, _, _, _, _, _, _, _, _, h, rfl, rfl, tabO_zz, fun w0 L _ => slz_nil⟩
  | inr t =>
    obtain ⟨t, l⟩ := t
    obtain ⟨tv, lv, rfl, hl, hO, hF⟩ := h
    obtain ⟨c0, c1, c2, c3, c4, c5, c6, c7, c8, rfl, ho⟩ := tabO_cells hO
    exact ⟨_, _, _, _, _, _, _, _, _, _, rfl, ho, hl, hO, hF⟩
section
variable {w0 : World} {L : Own}
theorem droppedm_g {v : Value} {t : Tb} (h : TabR w0 L v t) : Gives Try.prog w0 L 44 [v] (fun v' L' => ∃ S, L' = S ++ L ∧ DrR (drop1 t) v' S) := by
  refine enterB (R := DrR (drop1 t)) Try.func44 rfl Try.ntmps44 Try.results44 (Nat.le_of_ble_eq_true rfl) fun w hM => ?_
  have hT := h.at hM
  obtain ⟨vd, vh, vl, rfl, hd, hh, hlo⟩ := ((h).at hM).ex; obtain ⟨Ad, cd, rfl, hdc, hdl, hdA, hdR⟩ := id hd.ex; obtain ⟨Ah, ch, rfl, hhc, hhl, hhA, hhR⟩ := id hh.ex; obtain ⟨Al, cl, rfl, hlc, hll, hlA, hlR⟩ := LogR.opn hlo
  clear hM
  refine c_seq ?_
  refine c_region ?_
  refine x_boxa rfl (by (conv => lhs; whnf) <;> rfl) ?_
  intro b1
  refine x_al rfl ?_
  intro b2
  refine w_asg rfl (by (conv => lhs; whnf) <;> rfl) ?_
  refine w_asg rfl (by (conv => lhs; whnf) <;> rfl) ?_
  refine w_nil ?_
  refine tq_n ?_
  refine c_seq ?_
  refine c_seq ?_
  refine c_region ?_
  refine x_ldao rfl (by (conv => lhs; whnf) <;> rfl) (by first | exact HasC.out | exact PutC.out) rfl ?_
  refine x_callp (by decide) (checkr_g (hT.sub (List.nil_sublist _))) rfl rfl rfl ?_
  refine w_asg rfl (by (conv => lhs; whnf) <;> rfl) ?_
  refine w_nil ?_
  refine tq_n ?_
  refine c_seq ?_
  refine c_region ?_
  refine w_mov rfl (by (conv => lhs; whnf) <;> rfl) ?_
  refine w_neq rfl (by (conv => lhs; whnf) <;> rfl) (by (conv => lhs; whnf) <;> rfl) ?_
  refine w_nil ?_
  refine tq_n ?_
  refine c_cond_d (by (conv => lhs; whnf) <;> rfl) (fun hc11 => ?_) (fun hc11 => ?_)
  · have hm : ¬ May t := fun hm => hc11 (if_pos hm)
    refine c_seq ?_
    refine c_region ?_
    refine x_bld rfl .nil rfl ?_
    refine w_mov rfl (by (conv => lhs; whnf) <;> rfl) ?_
    refine x_stw rfl (by (conv => lhs; whnf) <;> rfl) (by (conv => lhs; whnf) <;> rfl) rfl rfl (by first | exact HasC.out | exact PutC.out) rfl ?_
    refine w_asg rfl (by (conv => lhs; whnf) <;> rfl) ?_
    refine w_asg rfl (by (conv => lhs; whnf) <;> rfl) ?_
    refine w_nil ?_
    refine tq_n ?_
    refine c_ret ?_
    refine tq_r ?_
    exact rq_r (ra_c (by (conv => lhs; whnf) <;> rfl) (by first | exact HasC.out | exact PutC.out) rfl (ra_t (by (conv => lhs; whnf) <;> rfl) (ra_t (by (conv => lhs; whnf) <;> rfl) .nil))) (by first | exact SubL.out | repeat (first | exact .refl _ | exact List.nil_sublist _ | refine .cons_cons _ ?_ | refine .cons _ ?_ | refine .append (.refl _) ?_ | exact List.sublist_append_left _ _ | refine .trans ?_ (List.sublist_append_right _ _))) (DrR_inl (e := 50) (by unfold drop1; simp only [if_neg hm]) (by simp only [if_neg hm]; rfl))
  · have hm : May t := Decidable.byContradiction fun hm => hc11 (by rw [if_neg hm]; decide)
    have hLi := hm.1
    have hcl := hLi.cl
    refine c_skip ?_
    refine tq_n ?_
    refine c_seq ?_
    refine c_seq ?_
    refine c_region ?_
    refine x_fa rfl (by (conv => lhs; whnf) <;> rfl) ?_
    refine x_ldo rfl (by (conv => lhs; whnf) <;> rfl) (by first | exact HasC.out | exact PutC.out) (by (conv => lhs; whnf) <;> rfl) ?_
    refine x_len rfl (by (conv => lhs; whnf) <;> rfl) ?_
    refine w_eql rfl (by (conv => lhs; whnf) <;> rfl) (by (conv => lhs; whnf) <;> rfl) ?_
    refine w_nil ?_
    refine tq_n ?_
    refine c_cond_d (by (conv => lhs; whnf) <;> rfl) (fun hc17 => ?_) (fun hc17 => ?_)
    · refine c_seq ?_
      refine c_region ?_
      refine x_bld rfl .nil rfl ?_
      refine x_stw rfl (by (conv => lhs; whnf) <;> rfl) (by (conv => lhs; whnf) <;> rfl) rfl rfl (by first | exact HasC.out | exact PutC.out) rfl ?_
      refine w_asg rfl (by (conv => lhs; whnf) <;> rfl) ?_
      refine w_asg rfl (by (conv => lhs; whnf) <;> rfl) ?_
      refine w_nil ?_
      refine tq_n ?_
      refine c_ret ?_
      refine tq_r ?_
      exact rq_r (ra_c (by (conv => lhs; whnf) <;> rfl) (by first | exact HasC.out | exact PutC.out) rfl (ra_t (by (conv => lhs; whnf) <;> rfl) (ra_t (by (conv => lhs; whnf) <;> rfl) .nil))) (by first | exact SubL.out | repeat (first | exact .refl _ | exact List.nil_sublist _ | refine .cons_cons _ ?_ | refine .cons _ ?_ | refine .append (.refl _) ?_ | exact List.sublist_append_left _ _ | refine .trans ?_ (List.sublist_append_right _ _))) (DrR_inl (e := 51) (by unfold drop1; simp only [if_pos hm]; exact if_pos (.inl (by omega))) rfl)
    · have h0 : 0 < t.lo.length := (by omega)
      obtain ⟨Ap, cp, hpc, hpl, hpA, hpR, hpI, hph, hpv⟩ := hlR 0 _ (getN h0)
      have hdp : hdPg t = (t.lo[0]'h0).pg := (by unfold hdPg; rw [headD_of h0])
      refine c_skip ?_
      refine tq_n ?_
      refine c_seq ?_
      refine c_seq ?_
      refine c_region ?_
      refine w_asg rfl (by (conv => lhs; whnf) <;> rfl) ?_
      refine w_nil ?_
      refine tq_n ?_
      refine c_block ?_
      refine c_loop_ov [19, 20, 21, 22, 23, 24, 25, 26, 29, 30, 31, 32, 33, 34, 35, 36, 37, 38, 3, 4, 27, 28, 6] (fun m s L => ∃ (j : Nat), j ≤ (t.lo[0]'h0).pg.length ∧ (∀ x ∈ (t.lo[0]'h0).pg.take j, isN x = false) ∧ m = (t.lo[0]'h0).pg.length - j ∧ s = [(6, .int .i64 j)] ∧ L = [(b2, B 43 zT), (b1, B 43 (cT t Ad cd Ah ch Al cl))]) ((t.lo[0]'h0).pg.length) [(6, .int .i64 (0 : Nat))] (by repeat (first | exact .nil | refine .cons rfl ?_)) (by first | exact SubL.out | repeat (first | exact .refl _ | exact List.nil_sublist _ | refine .cons_cons _ ?_ | refine .cons _ ?_ | refine .append (.refl _) ?_ | exact List.sublist_append_left _ _ | refine .trans ?_ (List.sublist_append_right _ _))) (⟨0, by omega, by simp, by omega, rfl, rfl⟩) ?_
      rintro mI sI LI gL0 ⟨j, hj, hv, rfl, rfl, rfl⟩
      refine c_seq ?_
      refine c_seq ?_
      refine c_region ?_
      refine w_mov rfl (by (conv => lhs; whnf) <;> rfl) ?_
      refine x_fa rfl (by (conv => lhs; whnf) <;> rfl) ?_
      refine x_ldo rfl (by (conv => lhs; whnf) <;> rfl) (by first | exact HasC.out | exact PutC.out) (by (conv => lhs; whnf) <;> rfl) ?_
      refine x_ixA rfl (by (conv => lhs; whnf) <;> rfl) (by (conv => lhs; whnf) <;> rfl) (hlA (ne_of_lt h0)) (by omega) (by omega) ?_
      refine x_fa rfl (by (conv => lhs; whnf) <;> rfl) ?_
      refine x_ld rfl (by (conv => lhs; whnf) <;> rfl) (hpv.sub (List.nil_sublist _)) ?_
      refine x_len rfl (by (conv => lhs; whnf) <;> rfl) ?_
      refine w_lss rfl (by (conv => lhs; whnf) <;> rfl) (by (conv => lhs; whnf) <;> rfl) ?_
      refine w_nil ?_
      refine tq_n ?_
      refine c_cond_d (by (conv => lhs; whnf) <;> rfl) (fun hc26 => ?_) (fun hc26 => ?_)
      · have hjlt : j < (t.lo[0]'h0).pg.length := by omega
        refine c_skip ?_
        refine tq_n ?_
        refine c_seq ?_
        refine c_block ?_
        refine c_seq ?_
        refine c_region ?_
        refine x_fa rfl (by (conv => lhs; whnf) <;> rfl) ?_
        refine x_ldo rfl (by (conv => lhs; whnf) <;> rfl) (by first | exact HasC.out | exact PutC.out) (by (conv => lhs; whnf) <;> rfl) ?_
        refine x_ixA rfl (by (conv => lhs; whnf) <;> rfl) (by (conv => lhs; whnf) <;> rfl) (hlA (ne_of_lt h0)) (by omega) (by omega) ?_
        refine x_fa rfl (by (conv => lhs; whnf) <;> rfl) ?_
        refine x_ld rfl (by (conv => lhs; whnf) <;> rfl) (hpv.sub (List.nil_sublist _)) ?_
        refine w_mov rfl (by (conv => lhs; whnf) <;> rfl) ?_
        refine x_ixA rfl (by (conv => lhs; whnf) <;> rfl) (by (conv => lhs; whnf) <;> rfl) (hpA (ne_of_lt hjlt)) (by omega) (by omega) ?_
        refine x_ld rfl (by (conv => lhs; whnf) <;> rfl) (rdI (j := (j : Int)) hpR (getN hjlt)) ?_
        refine w_geq rfl (by (conv => lhs; whnf) <;> rfl) (by (conv => lhs; whnf) <;> rfl) ?_
        refine w_nil ?_
        refine tq_n ?_
        refine c_cond_d (by (conv => lhs; whnf) <;> rfl) (fun hc37 => ?_) (fun hc37 => ?_)
        · refine c_seq ?_
          refine c_region ?_
          refine x_bld rfl .nil rfl ?_
          refine x_stw rfl (by (conv => lhs; whnf) <;> rfl) (by (conv => lhs; whnf) <;> rfl) rfl rfl (by first | exact HasC.out | exact PutC.out) rfl ?_
          refine w_asg rfl (by (conv => lhs; whnf) <;> rfl) ?_
          refine w_asg rfl (by (conv => lhs; whnf) <;> rfl) ?_
          refine w_nil ?_
          refine tq_n ?_
          refine c_ret ?_
          refine bq_r ?_
          refine tq_r ?_
          refine tq_r ?_
          refine bq_r ?_
          refine tq_r ?_
          exact rq_r (ra_c (by (conv => lhs; whnf) <;> rfl) (by first | exact HasC.out | exact PutC.out) rfl (ra_t (by (conv => lhs; whnf) <;> rfl) (ra_t (by (conv => lhs; whnf) <;> rfl) .nil))) (by first | exact SubL.out | repeat (first | exact .refl _ | exact List.nil_sublist _ | refine .cons_cons _ ?_ | refine .cons _ ?_ | refine .append (.refl _) ?_ | exact List.sublist_append_left _ _ | refine .trans ?_ (List.sublist_append_right _ _))) (DrR_inl (e := 51) (by unfold drop1; simp only [if_pos hm]; exact if_pos (.inr (by rw [hdp]; exact List.any_eq_true.2 ⟨_, List.getElem_mem hjlt, decide_eq_true hc37⟩))) rfl)
        · refine c_skip ?_
          refine bq_n ?_
          refine tq_n ?_
          refine c_region ?_
          refine w_mov rfl (by (conv => lhs; whnf) <;> rfl) ?_
          refine w_add rfl (by (conv => lhs; whnf) <;> rfl) (by (conv => lhs; whnf) <;> rfl) (by omega) ?_
          refine w_asg rfl (by (conv => lhs; whnf) <;> rfl) ?_
          refine w_nil ?_
          refine tq_n ?_
          exact ⟨(by first | ((repeat (first | with_reducible exact Ag.refl | with_reducible exact Ag.ov | (with_reducible refine Ag.upd ?_ ?_; exact rfl) | with_reducible refine Ag.putn ?_ | (with_reducible refine Ag.ovs ?_ ?_; exact rfl))); done) | (repeat (first | exact Ag.refl | exact Ag.ov | (refine Ag.upd ?_ ?_; exact rfl) | refine Ag.putn ?_ | (refine Ag.ovs ?_ ?_; exact rfl)))), (t.lo[0]'h0).pg.length - (j + 1), [(6, .int .i64 ((j + 1 : Nat) : Int))], _, by omega, (by first | exact SubL.out | repeat (first | exact .refl _ | exact List.nil_sublist _ | refine .cons_cons _ ?_ | refine .cons _ ?_ | refine .append (.refl _) ?_ | exact List.sublist_append_left _ _ | refine .trans ?_ (List.sublist_append_right _ _))), (by repeat (first | exact .nil | refine .cons rfl ?_)), ⟨j + 1, by omega, all_take_succ hjlt hv (decide_eq_false hc37), rfl, rfl, rfl⟩⟩
      · have hnd : ¬ noDrop t := (by rintro (e | e); (omega); (rw [hdp, any_take (by omega) hv] at e; cases e))
        have hdr : drop1 t = .inr ({ t with lo := t.lo.tail }, (t.lo.headD ⟨0, []⟩).ph) := (by unfold drop1; simp only [if_pos hm, if_neg hnd])
        refine c_exit ?_
        refine tq_e ?_
        refine tq_e ?_
        refine bq_e ?_
        refine tq_n ?_
        refine c_seq ?_
        refine c_region ?_
        refine x_ldao rfl (by (conv => lhs; whnf) <;> rfl) (by first | exact HasC.out | exact PutC.out) rfl ?_
        refine x_call (clonr_g (hT.sub (List.nil_sublist _)) hcl.b) rfl rfl rfl ?_
        rintro _ _ ⟨S, rfl, Sv, Sp, Sd, Sh, rfl, vd2, vh2, vl2, lv, rfl, g1, g2, g3, g4⟩
        obtain ⟨Ad2, cd2, rfl, _⟩ := g1.form
        obtain ⟨Ah2, ch2, rfl, _⟩ := g2.form
        obtain ⟨Al2, cl2, rfl, hcl2, hAl, hRl⟩ := logs_opn g3 g4.len hcl.2.2.1
        simp only [List.append_assoc]
        refine x_al rfl ?_
        intro b7
        refine x_stw rfl (by (conv => lhs; whnf) <;> rfl) (by (conv => lhs; whnf) <;> rfl) rfl rfl (by first | exact HasC.out | exact PutC.out) rfl ?_
        refine w_nil ?_
        refine tq_n ?_
        refine c_seq ?_
        refine c_region ?_
        refine x_fa rfl (by (conv => lhs; whnf) <;> rfl) ?_
        refine x_ldo rfl (by (conv => lhs; whnf) <;> rfl) (by first | exact HasC.out | exact PutC.out) (by (conv => lhs; whnf) <;> rfl) ?_
        refine x_sl (l := 1) (h := t.lo.length) rfl (by (conv => lhs; whnf) <;> rfl) (⟨rfl, rfl⟩) (by omega) (by omega) ?_
        refine x_fa rfl (by (conv => lhs; whnf) <;> rfl) ?_
        refine x_st1 rfl (by (conv => lhs; whnf) <;> rfl) (by (conv => lhs; whnf) <;> rfl) rfl (by first | exact HasC.out | exact PutC.out) rfl ?_
        refine w_nil ?_
        refine tq_n ?_
        refine c_seq ?_
        refine d_begin_s ((show List.Sublist [(b7, _), (b1, _)] _ from (by first | exact SubL.out | repeat (first | exact .refl _ | exact List.nil_sublist _ | refine .cons_cons _ ?_ | refine .cons _ ?_ | refine .append (.refl _) ?_ | exact List.sublist_append_left _ _ | refine .trans ?_ (List.sublist_append_right _ _))))) [] mixed ?_
        refine d_tk 0 (np_then np_ret) rfl (by kernel_rfl) (by kernel_rfl) (by kernel_rfl) (by kernel_rfl) (by kernel_rfl) (by first | exact SubL.out | repeat (first | exact .refl _ | exact List.nil_sublist _ | refine .cons_cons _ ?_ | refine .cons _ ?_ | refine .append (.refl _) ?_ | exact List.sublist_append_left _ _ | refine .trans ?_ (List.sublist_append_right _ _))) ?_
        refine x_ldao rfl (by (conv => lhs; whnf) <;> rfl) (by first | exact HasC.out | exact PutC.out) rfl ?_
        refine w_nil ⟨rfl, rfl, ?_⟩
        refine d_tk0 1 (np_then np_ret) rfl (by kernel_rfl) (by kernel_rfl) (by kernel_rfl) (by kernel_rfl) (.inl (by first | exact SubL.out | repeat (first | exact .refl _ | exact List.nil_sublist _ | refine .cons_cons _ ?_ | refine .cons _ ?_ | refine .append (.refl _) ?_ | exact List.sublist_append_left _ _ | refine .trans ?_ (List.sublist_append_right _ _)))) ?_
        refine x_fa rfl (by (conv => lhs; whnf) <;> rfl) ?_
        refine w_nil ⟨rfl, rfl, ?_⟩
        refine d_tk 2 (np_then np_ret) rfl (by kernel_rfl) (by kernel_rfl) (by kernel_rfl) (by kernel_rfl) (by kernel_rfl) (by first | exact SubL.out | repeat (first | exact .refl _ | exact List.nil_sublist _ | refine .cons_cons _ ?_ | refine .cons _ ?_ | refine .append (.refl _) ?_ | exact List.sublist_append_left _ _ | refine .trans ?_ (List.sublist_append_right _ _))) ?_
        refine x_ldo rfl (by (conv => lhs; whnf) <;> rfl) (by first | exact HasC.out | exact PutC.out) (by (conv => lhs; whnf) <;> rfl) ?_
        refine w_nil ⟨rfl, rfl, ?_⟩
        refine d_tk0 3 (np_then np_ret) rfl (by kernel_rfl) (by kernel_rfl) (by kernel_rfl) (by kernel_rfl) (.inl (by first | exact SubL.out | repeat (first | exact .refl _ | exact List.nil_sublist _ | refine .cons_cons _ ?_ | refine .cons _ ?_ | refine .append (.refl _) ?_ | exact List.sublist_append_left _ _ | refine .trans ?_ (List.sublist_append_right _ _)))) ?_
        refine x_ixA rfl (by (conv => lhs; whnf) <;> rfl) (by (conv => lhs; whnf) <;> rfl) (hlA (ne_of_lt h0)) (by omega) (by omega) ?_
        refine w_nil ⟨rfl, rfl, ?_⟩
        refine d_tk0 4 (np_then np_ret) rfl (by kernel_rfl) (by kernel_rfl) (by kernel_rfl) (by kernel_rfl) (.inl (by first | exact SubL.out | repeat (first | exact .refl _ | exact List.nil_sublist _ | refine .cons_cons _ ?_ | refine .cons _ ?_ | refine .append (.refl _) ?_ | exact List.sublist_append_left _ _ | refine .trans ?_ (List.sublist_append_right _ _)))) ?_
        refine x_fa rfl (by (conv => lhs; whnf) <;> rfl) ?_
        refine w_nil ⟨rfl, rfl, ?_⟩
        refine d_tk 5 (np_then np_ret) rfl (by kernel_rfl) (by kernel_rfl) (by kernel_rfl) (by kernel_rfl) (by kernel_rfl) (by first | exact SubL.out | repeat (first | exact .refl _ | exact List.nil_sublist _ | refine .cons_cons _ ?_ | refine .cons _ ?_ | refine .append (.refl _) ?_ | exact List.sublist_append_left _ _ | refine .trans ?_ (List.sublist_append_right _ _))) ?_
        refine x_ld rfl (by (conv => lhs; whnf) <;> rfl) (hph.sub (List.nil_sublist _)) ?_
        refine w_nil ⟨rfl, rfl, ?_⟩
        refine d_one 6 rfl (by kernel_rfl) ?_
        refine x_stw rfl (by (conv => lhs; whnf) <;> rfl) (by (conv => lhs; whnf) <;> rfl) rfl rfl (by first | exact HasC.out | exact PutC.out) rfl ?_
        refine w_nil ⟨rfl, (.inl (by first | exact SubL.out | repeat (first | exact .refl _ | exact List.nil_sublist _ | refine .cons_cons _ ?_ | refine .cons _ ?_ | refine .append (.refl _) ?_ | exact List.sublist_append_left _ _ | refine .trans ?_ (List.sublist_append_right _ _)))), ?_⟩
        refine d_tk0 7 (np_then np_ret) rfl (by kernel_rfl) (by kernel_rfl) (by kernel_rfl) (by kernel_rfl) (.inl (by first | exact SubL.out | repeat (first | exact .refl _ | exact List.nil_sublist _ | refine .cons_cons _ ?_ | refine .cons _ ?_ | refine .append (.refl _) ?_ | exact List.sublist_append_left _ _ | refine .trans ?_ (List.sublist_append_right _ _)))) ?_
        refine w_asg rfl (by (conv => lhs; whnf) <;> rfl) ?_
        refine w_nil ⟨rfl, rfl, ?_⟩
        refine d_tk0 8 (np_then np_ret) rfl (by kernel_rfl) (by kernel_rfl) (by kernel_rfl) (by kernel_rfl) (.inl (by first | exact SubL.out | repeat (first | exact .refl _ | exact List.nil_sublist _ | refine .cons_cons _ ?_ | refine .cons _ ?_ | refine .append (.refl _) ?_ | exact List.sublist_append_left _ _ | refine .trans ?_ (List.sublist_append_right _ _)))) ?_
        refine w_asg rfl (by (conv => lhs; whnf) <;> rfl) ?_
        refine w_nil ⟨rfl, rfl, ?_⟩
        refine d_done (by kernel_rfl) ?_
        refine tq_n ?_
        refine c_ret ?_
        exact rq_r (ra_c (by (conv => lhs; whnf) <;> rfl) (by first | exact HasC.out | exact PutC.out) rfl (ra_t (by (conv => lhs; whnf) <;> rfl) (ra_t (by (conv => lhs; whnf) <;> rfl) .nil))) (by first | exact SubL.out | repeat (first | exact .refl _ | exact List.nil_sublist _ | refine .cons_cons _ ?_ | refine .cons _ ?_ | refine .append (.refl _) ?_ | exact List.sublist_append_left _ _ | refine .trans ?_ (List.sublist_append_right _ _))) (DrR_inr (S := Sv ++ (Sp ++ (Sh ++ Sd))) hdr (by rw [headD_of h0]; rfl) (fun w0 L hs => ⟨_, _, _, rfl, SlR.ofOSl g1 rfl (by have := hcl.1; omega) (List.Sublist.trans (by first | exact SubL.out | repeat (first | exact .refl _ | exact List.nil_sublist _ | refine .cons_cons _ ?_ | refine .cons _ ?_ | refine .append (.refl _) ?_ | exact List.sublist_append_left _ _ | refine .trans ?_ (List.sublist_append_right _ _))) hs), SlR.ofOSl g2 rfl (by have := hcl.2.1; omega) (List.Sublist.trans (by first | exact SubL.out | repeat (first | exact .refl _ | exact List.nil_sublist _ | refine .cons_cons _ ?_ | refine .cons _ ?_ | refine .append (.refl _) ?_ | exact List.sublist_append_left _ _ | refine .trans ?_ (List.sublist_append_right _ _))) hs), drop_logR g3 g4 rfl h0 hcl.2.2.1 (List.Sublist.trans (by first | exact SubL.out | repeat (first | exact .refl _ | exact List.nil_sublist _ | refine .cons_cons _ ?_ | refine .cons _ ?_ | refine .append (.refl _) ?_ | exact List.sublist_append_left _ _ | refine .trans ?_ (List.sublist_append_right _ _))) hs) (List.Sublist.trans (by first | exact SubL.out | repeat (first | exact .refl _ | exact List.nil_sublist _ | refine .cons_cons _ ?_ | refine .cons _ ?_ | refine .append (.refl _) ?_ | exact List.sublist_append_left _ _ | refine .trans ?_ (List.sublist_append_right _ _))) hs)⟩))
end
end Go.Proofs.Ytnmhhelcaibdoaa.Pl
