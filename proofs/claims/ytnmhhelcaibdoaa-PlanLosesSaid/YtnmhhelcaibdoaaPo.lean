/- Dropped: walked. -/
import Derived.Test.YtnmhhelcaibdoaaPn
namespace Go.Proofs.Ytnmhhelcaibdoaa.Pl
open Go Go.RowKit Sl
set_option linter.unusedVariables false
set_option linter.unusedSimpArgs false
theorem drop_logR {A : Option Addr} {c n : Nat} {lv : List (Int × Value)} {lo : List Lg} {Sv Sp L : Own} {w0 : World} (h : OSl 102 2 (.slice A n c) (lv.flatMap encL) n Sv) (hW : LW lv lo Sp) (hn : lo.length = n) (h0 : 0 < n) (hb : n ≤ 1048576) (h1 : Sv.Sublist L) (h2 : Sp.Sublist L) :
    LogR w0 L (.slice (if c = 1 then A else A.map (·.add (1 * 2))) (n - 1) (c - 1)) lo.tail := by
  have hl := hW.len
  refine ⟨lv.tail, ?_, by simp [hl], fun i x l hx hl' => hW.logR h2 (i + 1) x l (by rw [← List.getElem?_tail]; exact hx) (by rw [← List.getElem?_tail]; exact hl')⟩
  generalize hcs : lv.flatMap encL = cs at h
  cases h with
  | nil => exact absurd h0 (by decide)
  | @own b _ sp _ cap hl1 hc hsp =>
    cases lv with
    | nil => simp at hl; omega
    | cons a r =>
      have hr : r.length = n - 1 := by simp at hl; omega
      refine ⟨_, c - 1, by rw [List.tail_cons, hr], by rw [List.tail_cons, hr]; omega, by rw [List.tail_cons, hr]; omega, fun hne => ?_, fun i v hv => ?_⟩
      · have : 0 < r.length := List.length_pos_iff.2 hne
        rw [if_neg (by omega)]; rfl
      · have hi := (List.getElem?_eq_some_iff.1 hv).1
        have hrl : 0 < r.length := by
          rcases Nat.eq_zero_or_pos r.length with h | h
          · rw [List.tail_cons, List.length_eq_zero_iff.1 h] at hi; simp at hi
          · exact h
        rw [if_neg (show ¬ c = 1 by omega)]
        show Rd w0 L ⟨b, (0 + 1 * 2) + i, none⟩ v
        refine (Rd.own (T := 102) (cs := cs ++ sp) .here ?_).sub h1
        rw [← hcs, show 0 + 1 * 2 + i = (encL a).length + i by simp [encL], List.flatMap_cons, List.append_assoc, List.getElem?_append_right (by omega), Nat.add_sub_cancel_left, List.getElem?_append_left (show i < (r.flatMap encL).length from hi)]
        exact hv
theorem DrR_inr {x : Sum Int (Tb × Int)} {t : Tb} {k : Int} {v tv : Value} {S : Own} (hx : x = .inr (t, k)) (hv : v = .tuple #[tv, .int .i64 k, .int .i64 0]) (h : TabO S tv t) : DrR x v S := by subst hx; exact ⟨tv, hv, h⟩
theorem DrR_inl {x : Sum Int (Tb × Int)} {e : Int} {v : Value} {S : Own} (hx : x = .inl e) (h : v = .tuple #[.agg zT.toArray, .int .i64 0, .int .i64 e]) : DrR x v S := by subst hx; exact h
section
variable {w0 : World} {L : Own}
theorem dropped_g {v : Value} {t : Tb} (h : TabR w0 L v t) : Gives Try.prog w0 L 29 [v] (fun v' L' => ∃ S, L' = S ++ L ∧ DrR (drop1 t) v' S) := by
  refine enterB (R := DrR (drop1 t)) Try.func29 rfl Try.ntmps29 Try.results29 (Nat.le_of_ble_eq_true rfl) fun w hM => ?_
  have hT := h.at hM
  obtain ⟨vd, vh, vl, rfl, hd, hh, hlo⟩ := ((h).at hM).ex; obtain ⟨Ad, cd, rfl, hdc, hdl, hdA, hdR⟩ := id hd.ex; obtain ⟨Ah, ch, rfl, hhc, hhl, hhA, hhR⟩ := id hh.ex; obtain ⟨Al, cl, rfl, hlc, hll, hlA, hlR⟩ := LogR.opn hlo
  clear hM
  obtain ⟨Aq, cq, hq⟩ : ∃ Aq cq, 0 < t.lo.length → Rd w [] ⟨bk Al, of_ Al + (0 : Int).toNat * 2 + 1, none⟩ (.slice Aq (hdPg t).length cq) ∧ IL w [] (.slice Aq (hdPg t).length cq) (hdPg t) := by
    by_cases hlt0 : 0 < t.lo.length
    · obtain ⟨Ap, cp, hpc, hpl, hpA, hpR, hpI, hph, hpv⟩ := hlR 0 _ (getN hlt0)
      have e : hdPg t = (t.lo[0]).pg := by unfold hdPg; rw [headD_of hlt0]
      exact ⟨Ap, cp, fun _ => ⟨by rw [e]; exact hpv, by rw [e]; exact hpI⟩⟩
    · exact ⟨none, 0, fun h => absurd h hlt0⟩
  refine c_seq ?_
  refine c_region ?_
  refine x_boxa rfl (by (conv => lhs; whnf); first | done | rfl) ?_
  intro b1
  refine x_al rfl ?_
  intro b2
  refine w_asg rfl (by (conv => lhs; whnf); first | done | rfl) ?_
  refine w_asg rfl (by (conv => lhs; whnf); first | done | rfl) ?_
  refine w_nil ?_
  refine tq_n ?_
  refine c_seq ?_
  refine c_seq ?_
  refine c_region ?_
  refine x_ldao rfl (by (conv => lhs; whnf); first | done | rfl) (by first | exact HasC.out | exact PutC.out | repeat (first | exact .here | apply Has.there | apply Put.there | apply Has.app | apply Put.app)) rfl ?_
  refine x_callp (by decide) (check_g (hT.sub (List.nil_sublist _))) rfl rfl rfl ?_
  refine w_asg rfl (by (conv => lhs; whnf); first | done | rfl) ?_
  refine w_nil ?_
  refine tq_n ?_
  refine c_seq ?_
  refine c_region ?_
  refine w_mov rfl (by (conv => lhs; whnf); first | done | rfl) ?_
  refine w_neq rfl (by (conv => lhs; whnf); first | done | rfl) (by (conv => lhs; whnf); first | done | rfl) ?_
  refine w_nil ?_
  refine tq_n ?_
  refine c_cond_d (by (conv => lhs; whnf); first | done | rfl) (fun hc10 => ?_) (fun hc10 => ?_)
  · have hm : ¬ May t := fun hm => hc10 (if_pos hm)
    refine c_seq ?_
    refine c_region ?_
    refine x_bld rfl .nil rfl ?_
    refine w_mov rfl (by (conv => lhs; whnf); first | done | rfl) ?_
    refine x_stw rfl (by (conv => lhs; whnf); first | done | rfl) (by (conv => lhs; whnf); first | done | rfl) rfl rfl (by first | exact HasC.out | exact PutC.out | repeat (first | exact .here | apply Has.there | apply Put.there | apply Has.app | apply Put.app)) rfl ?_
    refine w_asg rfl (by (conv => lhs; whnf); first | done | rfl) ?_
    refine w_asg rfl (by (conv => lhs; whnf); first | done | rfl) ?_
    refine w_nil ?_
    refine tq_n ?_
    refine c_ret ?_
    refine tq_r ?_
    exact rq_r (ra_c (by (conv => lhs; whnf); first | done | rfl) (by first | exact HasC.out | exact PutC.out | repeat (first | exact .here | apply Has.there | apply Put.there | apply Has.app | apply Put.app)) rfl (ra_t (by (conv => lhs; whnf); first | done | rfl) (ra_t (by (conv => lhs; whnf); first | done | rfl) .nil))) (by first | exact SubL.out | repeat (first | exact List.Sublist.refl _ | exact List.nil_sublist _ | refine .cons_cons _ ?_ | refine .cons _ ?_ | refine List.Sublist.append (List.Sublist.refl _) ?_ | exact List.sublist_append_left _ _ | refine List.Sublist.trans ?_ (List.sublist_append_right _ _))) (DrR_inl (e := 50) (by unfold drop1; simp only [if_neg hm]) (by simp only [if_neg hm]; rfl))
  · have hm : May t := Decidable.byContradiction fun hm => hc10 (by rw [if_neg hm]; decide)
    have hLi := hm.1
    have hcl := hLi.cl
    refine c_skip ?_
    refine tq_n ?_
    refine c_seq ?_
    refine c_seq ?_
    refine c_region_js [13, 14, 15, 16, 17, 18, 19, 20, 21, 22, 23, 24] 24 (.bool (decide (noDrop t))) ?_ (fun g4 => ?_)
    · all_goals (refine x_fa rfl (by (conv => lhs; whnf); first | done | rfl) ?_)
      all_goals (refine x_ldo rfl (by (conv => lhs; whnf); first | done | rfl) (by first | exact HasC.out | exact PutC.out | repeat (first | exact .here | apply Has.there | apply Put.there | apply Has.app | apply Put.app)) (by (conv => lhs; whnf); first | done | rfl) ?_)
      all_goals (refine x_len rfl (by (conv => lhs; whnf); first | done | rfl) ?_)
      all_goals (refine w_eql rfl (by (conv => lhs; whnf); first | done | rfl) (by (conv => lhs; whnf); first | done | rfl) ?_)
      all_goals (refine w_mov rfl (by (conv => lhs; whnf); first | done | rfl) ?_)
      all_goals (first | refine w_lit true rfl rfl rfl ?_ | refine w_lit false rfl rfl rfl ?_ | refine w_cases_od rfl rfl rfl (fun hg => ?_) (fun hg => ?_) | refine w_cases_o rfl rfl rfl (fun hg => ?_) (fun hg => ?_) | skip)
      all_goals (first | refine w_skip rfl ?_ | (refine x_fa rfl (by (conv => lhs; whnf); first | done | rfl) ?_))
      all_goals (first | refine w_skip rfl ?_ | (refine x_ldo rfl (by (conv => lhs; whnf); first | done | rfl) (by first | exact HasC.out | exact PutC.out | repeat (first | exact .here | apply Has.there | apply Put.there | apply Has.app | apply Put.app)) (by (conv => lhs; whnf); first | done | rfl) ?_))
      all_goals (first | refine w_skip rfl ?_ | (refine x_ixA rfl (by (conv => lhs; whnf); first | done | rfl) (by (conv => lhs; whnf); first | done | rfl) (hlA (fun e => by rw [e] at hg; exact hg rfl)) (by omega) (by omega) ?_))
      all_goals (first | refine w_skip rfl ?_ | (refine x_fa rfl (by (conv => lhs; whnf); first | done | rfl) ?_))
      all_goals (first | refine w_skip rfl ?_ | (refine x_ld rfl (by (conv => lhs; whnf); first | done | rfl) ((hq (by omega)).1.sub (List.nil_sublist _)) ?_))
      all_goals (first | refine w_skip rfl ?_ | (refine x_callp (by decide) (containsFunc_g (k := 68) (cap := #[]) (φ := isN) ((hq (by omega)).2.sub (List.nil_sublist _)) (fun _ _ _ _ => drop1_g)) rfl rfl rfl ?_))
      all_goals (first | refine w_pick_t rfl rfl (by (conv => lhs; whnf); first | done | rfl) ?_ | refine w_pick_f rfl rfl (by (conv => lhs; whnf); first | done | rfl) ?_)
      all_goals (refine w_nil ?_)
      all_goals (refine jns (by first | exact (Ag.upd rfl (Ag.upd rfl (Ag.upd rfl (Ag.upd rfl (Ag.upd rfl (Ag.upd rfl (Ag.upd rfl (Ag.upd rfl (Ag.upd rfl (Ag.upd rfl (Ag.upd rfl (Ag.upd rfl Ag.refl)))))))))))) | exact (by first | ((repeat (first | with_reducible exact Ag.refl | with_reducible exact Ag.ov | (with_reducible refine Ag.upd ?_ ?_; exact rfl) | with_reducible refine Ag.putn ?_ | (with_reducible refine Ag.ovs ?_ ?_; exact rfl))); done) | (repeat (first | exact Ag.refl | exact Ag.ov | (refine Ag.upd ?_ ?_; exact rfl) | refine Ag.putn ?_ | (refine Ag.ovs ?_ ?_; exact rfl))))) (by (conv => lhs; whnf); first | done | rfl) (by first | exact SubL.out | repeat (first | exact List.Sublist.refl _ | exact List.nil_sublist _ | refine .cons_cons _ ?_ | refine .cons _ ?_ | refine List.Sublist.append (List.Sublist.refl _) ?_ | exact List.sublist_append_left _ _ | refine List.Sublist.trans ?_ (List.sublist_append_right _ _))) ?_)
      all_goals (exact congrArg Value.bool (by first | exact (decide_eq_true (show noDrop t from .inl (by omega))).symm | exact decide_eq_decide.2 ⟨.inr, fun h => h.resolve_left (by omega)⟩))
    refine tq_n ?_
    refine c_cond_d (by (conv => lhs; whnf); first | done | rfl) (fun hc24 => ?_) (fun hc24 => ?_)
    · refine c_seq ?_
      refine c_region ?_
      refine x_bld rfl .nil rfl ?_
      refine x_stw rfl (by (conv => lhs; whnf); first | done | rfl) (by (conv => lhs; whnf); first | done | rfl) rfl rfl (by first | exact HasC.out | exact PutC.out | repeat (first | exact .here | apply Has.there | apply Put.there | apply Has.app | apply Put.app)) rfl ?_
      refine w_asg rfl (by (conv => lhs; whnf); first | done | rfl) ?_
      refine w_asg rfl (by (conv => lhs; whnf); first | done | rfl) ?_
      refine w_nil ?_
      refine tq_n ?_
      refine c_ret ?_
      refine tq_r ?_
      exact rq_r (ra_c (by (conv => lhs; whnf); first | done | rfl) (by first | exact HasC.out | exact PutC.out | repeat (first | exact .here | apply Has.there | apply Put.there | apply Has.app | apply Put.app)) rfl (ra_t (by (conv => lhs; whnf); first | done | rfl) (ra_t (by (conv => lhs; whnf); first | done | rfl) .nil))) (by first | exact SubL.out | repeat (first | exact List.Sublist.refl _ | exact List.nil_sublist _ | refine .cons_cons _ ?_ | refine .cons _ ?_ | refine List.Sublist.append (List.Sublist.refl _) ?_ | exact List.sublist_append_left _ _ | refine List.Sublist.trans ?_ (List.sublist_append_right _ _))) (DrR_inl (e := 51) (by unfold drop1; simp only [if_pos hm, if_pos hc24]) rfl)
    · have h0 : 0 < t.lo.length := (by unfold noDrop at hc24; omega)
      have hdr : drop1 t = .inr ({ t with lo := t.lo.tail }, (t.lo.headD ⟨0, []⟩).ph) := (by unfold drop1; simp only [if_pos hm, if_neg hc24])
      refine c_skip ?_
      refine tq_n ?_
      refine c_seq ?_
      refine c_region ?_
      refine x_ldao rfl (by (conv => lhs; whnf); first | done | rfl) (by first | exact HasC.out | exact PutC.out | repeat (first | exact .here | apply Has.there | apply Put.there | apply Has.app | apply Put.app)) rfl ?_
      refine x_call (clone_g (hT.sub (List.nil_sublist _)) hcl) rfl rfl rfl ?_
      rintro _ _ ⟨S, rfl, Sv, Sp, Sd, Sh, rfl, vd2, vh2, vl2, lv, rfl, g1, g2, g3, g4⟩
      obtain ⟨Ad2, cd2, rfl, _⟩ := g1.form
      obtain ⟨Ah2, ch2, rfl, _⟩ := g2.form
      obtain ⟨Al2, cl2, rfl, hcl2, hAl, hRl⟩ := logs_opn g3 g4.len hcl.2.2.1
      obtain ⟨Ar, cr, hlv, _⟩ := g4.get (getN h0)
      simp only [List.append_assoc]
      refine x_stw rfl (by (conv => lhs; whnf); first | done | rfl) (by (conv => lhs; whnf); first | done | rfl) rfl rfl (by first | exact HasC.out | exact PutC.out | repeat (first | exact .here | apply Has.there | apply Put.there | apply Has.app | apply Put.app)) rfl ?_
      refine w_nil ?_
      refine tq_n ?_
      refine c_seq ?_
      refine c_region ?_
      refine x_fa rfl (by (conv => lhs; whnf); first | done | rfl) ?_
      refine x_ldo rfl (by (conv => lhs; whnf); first | done | rfl) (by first | exact HasC.out | exact PutC.out | repeat (first | exact .here | apply Has.there | apply Put.there | apply Has.app | apply Put.app)) (by (conv => lhs; whnf); first | done | rfl) ?_
      refine x_ixA rfl (by (conv => lhs; whnf); first | done | rfl) (by (conv => lhs; whnf); first | done | rfl) (hAl h0) (by omega) (by omega) ?_
      refine x_fa rfl (by (conv => lhs; whnf); first | done | rfl) ?_
      refine x_ld rfl (by (conv => lhs; whnf); first | done | rfl) ((hRl _ _ (by first | exact SubL.out | repeat (first | exact List.Sublist.refl _ | exact List.nil_sublist _ | refine .cons_cons _ ?_ | refine .cons _ ?_ | refine List.Sublist.append (List.Sublist.refl _) ?_ | exact List.sublist_append_left _ _ | refine List.Sublist.trans ?_ (List.sublist_append_right _ _))) 0 _ hlv).1) ?_
      refine w_asg rfl (by (conv => lhs; whnf); first | done | rfl) ?_
      refine w_nil ?_
      refine tq_n ?_
      refine c_seq ?_
      refine c_region ?_
      refine x_fa rfl (by (conv => lhs; whnf); first | done | rfl) ?_
      refine x_ldo rfl (by (conv => lhs; whnf); first | done | rfl) (by first | exact HasC.out | exact PutC.out | repeat (first | exact .here | apply Has.there | apply Put.there | apply Has.app | apply Put.app)) (by (conv => lhs; whnf); first | done | rfl) ?_
      refine x_sl (l := 1) (h := t.lo.length) rfl (by (conv => lhs; whnf); first | done | rfl) (⟨rfl, rfl⟩) (by omega) (by omega) ?_
      refine x_fa rfl (by (conv => lhs; whnf); first | done | rfl) ?_
      refine x_st1 rfl (by (conv => lhs; whnf); first | done | rfl) (by (conv => lhs; whnf); first | done | rfl) rfl (by first | exact HasC.out | exact PutC.out | repeat (first | exact .here | apply Has.there | apply Put.there | apply Has.app | apply Put.app)) rfl ?_
      refine w_nil ?_
      refine tq_n ?_
      refine c_seq ?_
      refine c_region ?_
      refine x_ldao rfl (by (conv => lhs; whnf); first | done | rfl) (by first | exact HasC.out | exact PutC.out | repeat (first | exact .here | apply Has.there | apply Put.there | apply Has.app | apply Put.app)) rfl ?_
      refine w_mov rfl (by (conv => lhs; whnf); first | done | rfl) ?_
      refine x_stw rfl (by (conv => lhs; whnf); first | done | rfl) (by (conv => lhs; whnf); first | done | rfl) rfl rfl (by first | exact HasC.out | exact PutC.out | repeat (first | exact .here | apply Has.there | apply Put.there | apply Has.app | apply Put.app)) rfl ?_
      refine w_asg rfl (by (conv => lhs; whnf); first | done | rfl) ?_
      refine w_asg rfl (by (conv => lhs; whnf); first | done | rfl) ?_
      refine w_nil ?_
      refine tq_n ?_
      refine c_ret ?_
      exact rq_r (ra_c (by (conv => lhs; whnf); first | done | rfl) (by first | exact HasC.out | exact PutC.out | repeat (first | exact .here | apply Has.there | apply Put.there | apply Has.app | apply Put.app)) rfl (ra_t (by (conv => lhs; whnf); first | done | rfl) (ra_t (by (conv => lhs; whnf); first | done | rfl) .nil))) (by first | exact SubL.out | repeat (first | exact List.Sublist.refl _ | exact List.nil_sublist _ | refine .cons_cons _ ?_ | refine .cons _ ?_ | refine List.Sublist.append (List.Sublist.refl _) ?_ | exact List.sublist_append_left _ _ | refine List.Sublist.trans ?_ (List.sublist_append_right _ _))) (DrR_inr (S := Sv ++ (Sp ++ (Sd ++ Sh))) hdr (by rw [headD_of h0]; rfl) (fun w0 L hs => ⟨_, _, _, rfl, SlR.ofOSl g1 rfl (by have := hcl.1; omega) (List.Sublist.trans (by first | exact SubL.out | repeat (first | exact List.Sublist.refl _ | exact List.nil_sublist _ | refine .cons_cons _ ?_ | refine .cons _ ?_ | refine List.Sublist.append (List.Sublist.refl _) ?_ | exact List.sublist_append_left _ _ | refine List.Sublist.trans ?_ (List.sublist_append_right _ _))) hs), SlR.ofOSl g2 rfl (by have := hcl.2.1; omega) (List.Sublist.trans (by first | exact SubL.out | repeat (first | exact List.Sublist.refl _ | exact List.nil_sublist _ | refine .cons_cons _ ?_ | refine .cons _ ?_ | refine List.Sublist.append (List.Sublist.refl _) ?_ | exact List.sublist_append_left _ _ | refine List.Sublist.trans ?_ (List.sublist_append_right _ _))) hs), drop_logR g3 g4 rfl h0 hcl.2.2.1 (List.Sublist.trans (by first | exact SubL.out | repeat (first | exact List.Sublist.refl _ | exact List.nil_sublist _ | refine .cons_cons _ ?_ | refine .cons _ ?_ | refine List.Sublist.append (List.Sublist.refl _) ?_ | exact List.sublist_append_left _ _ | refine List.Sublist.trans ?_ (List.sublist_append_right _ _))) hs) (List.Sublist.trans (by first | exact SubL.out | repeat (first | exact List.Sublist.refl _ | exact List.nil_sublist _ | refine .cons_cons _ ?_ | refine .cons _ ?_ | refine List.Sublist.append (List.Sublist.refl _) ?_ | exact List.sublist_append_left _ _ | refine List.Sublist.trans ?_ (List.sublist_append_right _ _))) hs)⟩))
end
end Go.Proofs.Ytnmhhelcaibdoaa.Pl
