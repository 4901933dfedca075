/- The reference's logged, may, there, Where, over, room, Want, fresh, Same. -/
import Derived.Test.YtnmhhelcaibdoaaEb
import Derived.Test.YtnmhhelcaibdoaaPt
import Derived.Test.YtnmhhelcaibdoaaVe
namespace Go.Proofs.Ytnmhhelcaibdoaa.Pl
open Go Go.RowKit Sl
set_option linter.unusedVariables false
set_option linter.unusedSimpArgs false
theorem ixOf_no {xs : List Int} {x : Int} (h : x ∉ xs) : ¬ 0 ≤ ixOf xs x := by unfold ixOf; rw [if_neg h]; decide
theorem lgd_iff {t : Tb} : lgd t = true ↔ ∃ l ∈ t.lo, ∃ p ∈ l.pg, (0 ≤ p ∧ p / t.P = t.sl) ∧ p % t.P < t.su := by
  unfold lgd
  rw [List.any_eq_true]
  constructor
  · rintro ⟨l, h1, h2⟩
    obtain ⟨p, h3, h4⟩ := List.any_eq_true.1 h2
    exact ⟨l, h1, p, h3, of_decide_eq_true h4⟩
  · rintro ⟨l, h1, p, h3, h4⟩
    exact ⟨l, h1, List.any_eq_true.2 ⟨p, h3, decide_eq_true h4⟩⟩
theorem over_hit {t : Tb} {o : Int} (h0 : 0 ≤ t.sl) (ho : 0 ≤ o) (ho1 : o < t.su) (hP : t.su ≤ t.P) (h : (lwhr t.lo (t.sl * t.P + o)).isSome = true) : lgd t = true := by
  have hn : ¬ lwhr t.lo (t.sl * t.P + o) = none := fun e => by rw [e] at h; cases h
  rw [lwhr_none] at hn
  rw [lgd_iff]
  refine Classical.byContradiction fun hc => hn fun l hl hp => hc ⟨l, hl, _, hp, ?_⟩
  have hd := blk_div (P := t.P) (b := t.sl) ho (by omega)
  have : 0 ≤ t.sl * t.P := Int.mul_nonneg h0 (by omega)
  rw [hd.1, hd.2]
  exact ⟨⟨by omega, rfl⟩, ho1⟩
theorem over_none {t : Tb} (hP : 0 < t.P) (h : ∀ o : Int, 0 ≤ o → o < t.su → lwhr t.lo (t.sl * t.P + o) = none) : lgd t = false := by
  rw [← Bool.not_eq_true, lgd_iff]
  rintro ⟨l, hl, p, hp, ⟨h0, h1⟩, h2⟩
  have := h (p % t.P) (Int.emod_nonneg _ (by omega)) h2
  rw [← h1, show p / t.P * t.P + p % t.P = p by rw [Int.mul_comm]; exact Int.mul_ediv_add_emod p t.P, lwhr_none] at this
  exact this l hl hp
theorem rdB' {w0 : World} {L0 L : Own} {xs : List Bool} {b o : Nat} (hs : L0.Sublist L) (h : ∀ i c, (xs.flatMap Sl.encB)[i]? = some c → Rd w0 L0 ⟨b, o + i, none⟩ c) {j : Int} {x : Bool} (hx : xs[j.toNat]? = some x) : Rd w0 L ⟨b, o + j.toNat * 1, none⟩ (.bool x) := by
  rw [Nat.mul_one]; exact (h _ _ (by rw [flatB, List.getElem?_map, hx]; rfl)).sub hs
theorem TabR.lists {w0 : World} {L : Own} {t : Tb} {Ad Ah Al : Option Addr} {cd ch cl : Nat} (h : TabR w0 L (.agg (cT t Ad cd Ah ch Al cl).toArray) t) : IL w0 L (.slice Ad t.da.length cd) t.da ∧ BL w0 L (.slice Ah t.ha.length ch) t.ha ∧ LogR w0 L (.slice Al t.lo.length cl) t.lo := by
  obtain ⟨vd, vh, vl, e, hd, hh, hlo⟩ := h.ex
  injection e with e
  have e := congrArg Array.toList e
  simp only [List.cons.injEq] at e
  obtain ⟨_, _, _, rfl, rfl, _, _, _, rfl, _⟩ := e
  exact ⟨hd, hh, hlo⟩
section
variable {w0 : World} {L : Own}
theorem loggedr_g {v : Value} {t : Tb} {p : Int} (h : TabR w0 L v t) : Gives Try.prog w0 L 102 [v, .int .i64 p] (fun v' L' => v' = plcV (lwhr t.lo p) ∧ L' = L) := by
  refine enterP Try.func102 rfl Try.ntmps102 Try.results102 (Nat.le_of_ble_eq_true rfl) fun w hM => ?_
  obtain ⟨vd, vh, vl, rfl, hd, hh, hlo⟩ := ((h).at hM).ex; obtain ⟨Ad, cd, rfl, hdc, hdl, hdA, hdR⟩ := id hd.ex; obtain ⟨Ah, ch, rfl, hhc, hhl, hhA, hhR⟩ := id hh.ex; obtain ⟨Al, cl, rfl, hlc, hll, hlA, hlR⟩ := LogR.opn hlo
  clear hM
  refine c_seq ?_
  refine c_region ?_
  refine x_boxa rfl (by (conv => lhs; whnf); first | done | rfl) ?_
  intro b2
  refine x_al rfl ?_
  intro b4
  refine w_asg rfl (by (conv => lhs; whnf); first | done | rfl) ?_
  refine w_nil ?_
  refine tq_n ?_
  refine c_seq ?_
  refine c_seq ?_
  refine c_region ?_
  refine w_asg rfl (by (conv => lhs; whnf); first | done | rfl) ?_
  refine w_nil ?_
  refine tq_n ?_
  refine c_block ?_
  refine c_loop_ov [8, 9, 10, 11, 12, 7, 15, 16, 17, 18, 19, 20, 21, 22, 23, 26, 27, 28, 29, 30, 31, 32, 33, 34, 35, 36, 37, 38, 39, 40, 41, 42, 43, 44, 5, 24, 25, 13, 14, 6] (fun m s L => ∃ (k : Nat), k ≤ t.lo.length ∧ lwhr t.lo p = lwhr (t.lo.drop k) p ∧ m = t.lo.length - k ∧ s = [(6, .int .i64 k)] ∧ L = [(b4, B 29 [.int .i64 0, .int .i64 0]), (b2, B 43 (cT t Ad cd Ah ch Al cl))]) (t.lo.length) [(6, .int .i64 (0 : Nat))] (by repeat (first | exact .nil | refine .cons rfl ?_)) (by first | exact SubL.out | repeat (first | exact List.Sublist.refl _ | exact List.nil_sublist _ | refine .cons_cons _ ?_ | refine .cons _ ?_ | refine List.Sublist.append (List.Sublist.refl _) ?_ | exact List.sublist_append_left _ _ | refine List.Sublist.trans ?_ (List.sublist_append_right _ _))) (⟨0, by omega, rfl, by omega, rfl, rfl⟩) ?_
  rintro mI sI LI gL0 ⟨k, hk, hw, rfl, rfl, rfl⟩
  refine c_seq ?_
  refine c_seq ?_
  refine c_region ?_
  refine w_mov rfl (by (conv => lhs; whnf); first | done | rfl) ?_
  refine x_fa rfl (by (conv => lhs; whnf); first | done | rfl) ?_
  refine x_ldo rfl (by (conv => lhs; whnf); first | done | rfl) (by first | exact HasC.out | exact PutC.out | repeat (first | exact .here | apply Has.there | apply Put.there | apply Has.app | apply Put.app)) (by (conv => lhs; whnf); first | done | rfl) ?_
  refine x_len rfl (by (conv => lhs; whnf); first | done | rfl) ?_
  refine w_lss rfl (by (conv => lhs; whnf); first | done | rfl) (by (conv => lhs; whnf); first | done | rfl) ?_
  refine w_nil ?_
  refine tq_n ?_
  refine c_cond_d (by (conv => lhs; whnf); first | done | rfl) (fun hc12 => ?_) (fun hc12 => ?_)
  · have hlt : k < t.lo.length := by omega
    obtain ⟨Ap, cp, hpc, hpl, hpA, hpR, hpI, hph, hpv⟩ := hlR k _ (getN hlt)
    refine c_skip ?_
    refine tq_n ?_
    refine c_seq ?_
    refine c_block ?_
    refine c_seq ?_
    refine c_region ?_
    refine w_asg rfl (by (conv => lhs; whnf); first | done | rfl) ?_
    refine w_nil ?_
    refine tq_n ?_
    refine c_block ?_
    refine c_loop_ov [15, 16, 17, 18, 19, 20, 21, 22, 23, 26, 27, 28, 29, 30, 31, 32, 33, 34, 35, 36, 37, 38, 39, 40, 41, 42, 43, 44, 5, 24, 25, 7] (fun m s L => ∃ (j : Nat), j ≤ (t.lo[k]'hlt).pg.length ∧ p ∉ (t.lo[k]'hlt).pg.take j ∧ m = (t.lo[k]'hlt).pg.length - j ∧ s = [(7, .int .i64 j)] ∧ L = [(b4, B 29 [.int .i64 0, .int .i64 0]), (b2, B 43 (cT t Ad cd Ah ch Al cl))]) ((t.lo[k]'hlt).pg.length) [(7, .int .i64 (0 : Nat))] (by repeat (first | exact .nil | refine .cons rfl ?_)) (by first | exact SubL.out | repeat (first | exact List.Sublist.refl _ | exact List.nil_sublist _ | refine .cons_cons _ ?_ | refine .cons _ ?_ | refine List.Sublist.append (List.Sublist.refl _) ?_ | exact List.sublist_append_left _ _ | refine List.Sublist.trans ?_ (List.sublist_append_right _ _))) (⟨0, by omega, by simp, by omega, rfl, rfl⟩) ?_
    rintro mI sI LI gL1 ⟨j, hj, hn, rfl, rfl, rfl⟩
    refine c_seq ?_
    refine c_seq ?_
    refine c_region ?_
    refine w_mov rfl (by (conv => lhs; whnf); first | done | rfl) ?_
    refine x_fa rfl (by (conv => lhs; whnf); first | done | rfl) ?_
    refine x_ldo rfl (by (conv => lhs; whnf); first | done | rfl) (by first | exact HasC.out | exact PutC.out | repeat (first | exact .here | apply Has.there | apply Put.there | apply Has.app | apply Put.app)) (by (conv => lhs; whnf); first | done | rfl) ?_
    refine w_mov rfl (by (conv => lhs; whnf); first | done | rfl) ?_
    refine x_ixA rfl (by (conv => lhs; whnf); first | done | rfl) (by (conv => lhs; whnf); first | done | rfl) (hlA (ne_of_lt hlt)) (by omega) (by omega) ?_
    refine x_fa rfl (by (conv => lhs; whnf); first | done | rfl) ?_
    refine x_ld rfl (by (conv => lhs; whnf); first | done | rfl) (hpv.sub (List.nil_sublist _)) ?_
    refine x_len rfl (by (conv => lhs; whnf); first | done | rfl) ?_
    refine w_lss rfl (by (conv => lhs; whnf); first | done | rfl) (by (conv => lhs; whnf); first | done | rfl) ?_
    refine w_nil ?_
    refine tq_n ?_
    refine c_cond_d (by (conv => lhs; whnf); first | done | rfl) (fun hc23 => ?_) (fun hc23 => ?_)
    · have hjlt : j < (t.lo[k]'hlt).pg.length := by omega
      refine c_skip ?_
      refine tq_n ?_
      refine c_seq ?_
      refine c_block ?_
      refine c_seq ?_
      refine c_region ?_
      refine x_fa rfl (by (conv => lhs; whnf); first | done | rfl) ?_
      refine x_ldo rfl (by (conv => lhs; whnf); first | done | rfl) (by first | exact HasC.out | exact PutC.out | repeat (first | exact .here | apply Has.there | apply Put.there | apply Has.app | apply Put.app)) (by (conv => lhs; whnf); first | done | rfl) ?_
      refine w_mov rfl (by (conv => lhs; whnf); first | done | rfl) ?_
      refine x_ixA rfl (by (conv => lhs; whnf); first | done | rfl) (by (conv => lhs; whnf); first | done | rfl) (hlA (ne_of_lt hlt)) (by omega) (by omega) ?_
      refine x_fa rfl (by (conv => lhs; whnf); first | done | rfl) ?_
      refine x_ld rfl (by (conv => lhs; whnf); first | done | rfl) (hpv.sub (List.nil_sublist _)) ?_
      refine w_mov rfl (by (conv => lhs; whnf); first | done | rfl) ?_
      refine x_ixA rfl (by (conv => lhs; whnf); first | done | rfl) (by (conv => lhs; whnf); first | done | rfl) (hpA (ne_of_lt hjlt)) (by omega) (by omega) ?_
      refine x_ld rfl (by (conv => lhs; whnf); first | done | rfl) (rdI (j := (j : Int)) hpR (getN hjlt)) ?_
      refine w_mov rfl (by (conv => lhs; whnf); first | done | rfl) ?_
      refine w_eql rfl (by (conv => lhs; whnf); first | done | rfl) (by (conv => lhs; whnf); first | done | rfl) ?_
      refine w_nil ?_
      refine tq_n ?_
      refine c_cond_d (by (conv => lhs; whnf); first | done | rfl) (fun hc36 => ?_) (fun hc36 => ?_)
      · have hix := ixOf_at hjlt hn hc36.symm
        have hwh := lwhr_hit hlt hw (by rw [hix]; omega)
        rw [hix] at hwh
        refine c_seq ?_
        refine c_region ?_
        refine x_fa rfl (by (conv => lhs; whnf); first | done | rfl) ?_
        refine x_ldo rfl (by (conv => lhs; whnf); first | done | rfl) (by first | exact HasC.out | exact PutC.out | repeat (first | exact .here | apply Has.there | apply Put.there | apply Has.app | apply Put.app)) (by (conv => lhs; whnf); first | done | rfl) ?_
        refine w_mov rfl (by (conv => lhs; whnf); first | done | rfl) ?_
        refine x_ixA rfl (by (conv => lhs; whnf); first | done | rfl) (by (conv => lhs; whnf); first | done | rfl) (hlA (ne_of_lt hlt)) (by omega) (by omega) ?_
        refine x_fa rfl (by (conv => lhs; whnf); first | done | rfl) ?_
        refine x_ld rfl (by (conv => lhs; whnf); first | done | rfl) (hph.sub (List.nil_sublist _)) ?_
        refine w_mov rfl (by (conv => lhs; whnf); first | done | rfl) ?_
        refine x_bld rfl (.cons (by (conv => lhs; whnf); first | done | rfl) (.cons (by (conv => lhs; whnf); first | done | rfl) .nil)) rfl ?_
        refine x_stw rfl (by (conv => lhs; whnf); first | done | rfl) (by (conv => lhs; whnf); first | done | rfl) rfl rfl (by first | exact HasC.out | exact PutC.out | repeat (first | exact .here | apply Has.there | apply Put.there | apply Has.app | apply Put.app)) rfl ?_
        refine w_asg rfl (by (conv => lhs; whnf); first | done | rfl) ?_
        refine w_nil ?_
        refine tq_n ?_
        refine c_ret ?_
        refine bq_r ?_
        refine tq_r ?_
        refine tq_r ?_
        refine bq_r ?_
        refine bq_r ?_
        refine tq_r ?_
        refine tq_r ?_
        refine bq_r ?_
        refine tq_r ?_
        exact rq_r (ra_c (by (conv => lhs; whnf); first | done | rfl) (by first | exact HasC.out | exact PutC.out | repeat (first | exact .here | apply Has.there | apply Put.there | apply Has.app | apply Put.app)) rfl (ra_t (by (conv => lhs; whnf); first | done | rfl) .nil)) (List.nil_sublist _) (⟨by rw [hwh]; rfl, rfl⟩)
      · refine c_skip ?_
        refine bq_n ?_
        refine tq_n ?_
        refine c_region ?_
        refine w_mov rfl (by (conv => lhs; whnf); first | done | rfl) ?_
        refine w_add rfl (by (conv => lhs; whnf); first | done | rfl) (by (conv => lhs; whnf); first | done | rfl) (by omega) ?_
        refine w_asg rfl (by (conv => lhs; whnf); first | done | rfl) ?_
        refine w_nil ?_
        refine tq_n ?_
        exact ⟨(by first | ((repeat (first | with_reducible exact Ag.refl | with_reducible exact Ag.ov | (with_reducible refine Ag.upd ?_ ?_; exact rfl) | with_reducible refine Ag.putn ?_ | (with_reducible refine Ag.ovs ?_ ?_; exact rfl))); done) | (repeat (first | exact Ag.refl | exact Ag.ov | (refine Ag.upd ?_ ?_; exact rfl) | refine Ag.putn ?_ | (refine Ag.ovs ?_ ?_; exact rfl)))), (t.lo[k]'hlt).pg.length - (j + 1), [(7, .int .i64 ((j + 1 : Nat) : Int))], _, by omega, (by first | exact SubL.out | repeat (first | exact List.Sublist.refl _ | exact List.nil_sublist _ | refine .cons_cons _ ?_ | refine .cons _ ?_ | refine List.Sublist.append (List.Sublist.refl _) ?_ | exact List.sublist_append_left _ _ | refine List.Sublist.trans ?_ (List.sublist_append_right _ _))), (by repeat (first | exact .nil | refine .cons rfl ?_)), ⟨j + 1, by omega, nmem_succ hjlt hn (Ne.symm hc36), rfl, rfl, rfl⟩⟩
    · refine c_exit ?_
      refine tq_e ?_
      refine tq_e ?_
      refine bq_e ?_
      refine bq_n ?_
      refine tq_n ?_
      refine c_region ?_
      refine w_mov rfl (by (conv => lhs; whnf); first | done | rfl) ?_
      refine w_add rfl (by (conv => lhs; whnf); first | done | rfl) (by (conv => lhs; whnf); first | done | rfl) (by omega) ?_
      refine w_asg rfl (by (conv => lhs; whnf); first | done | rfl) ?_
      refine w_nil ?_
      refine tq_n ?_
      exact ⟨(by first | ((repeat (first | with_reducible exact Ag.refl | with_reducible exact Ag.ov | (with_reducible refine Ag.upd ?_ ?_; exact rfl) | with_reducible refine Ag.putn ?_ | (with_reducible refine Ag.ovs ?_ ?_; exact rfl))); done) | (repeat (first | exact Ag.refl | exact Ag.ov | (refine Ag.upd ?_ ?_; exact rfl) | refine Ag.putn ?_ | (refine Ag.ovs ?_ ?_; exact rfl)))), t.lo.length - (k + 1), [(6, .int .i64 ((k + 1 : Nat) : Int))], _, by omega, (by first | exact SubL.out | repeat (first | exact List.Sublist.refl _ | exact List.nil_sublist _ | refine .cons_cons _ ?_ | refine .cons _ ?_ | refine List.Sublist.append (List.Sublist.refl _) ?_ | exact List.sublist_append_left _ _ | refine List.Sublist.trans ?_ (List.sublist_append_right _ _))), (by repeat (first | exact .nil | refine .cons rfl ?_)), ⟨k + 1, by omega, lwhr_next hlt hw (ixOf_no (by rw [List.take_of_length_le (by omega)] at hn; exact hn)), rfl, rfl, rfl⟩⟩
  · refine c_exit ?_
    refine tq_e ?_
    refine tq_e ?_
    refine bq_e ?_
    refine tq_n ?_
    refine c_seq ?_
    refine c_region ?_
    refine x_bld rfl .nil rfl ?_
    refine x_stw rfl (by (conv => lhs; whnf); first | done | rfl) (by (conv => lhs; whnf); first | done | rfl) rfl rfl (by first | exact HasC.out | exact PutC.out | repeat (first | exact .here | apply Has.there | apply Put.there | apply Has.app | apply Put.app)) rfl ?_
    refine w_asg rfl (by (conv => lhs; whnf); first | done | rfl) ?_
    refine w_nil ?_
    refine tq_n ?_
    refine c_ret ?_
    exact rq_r (ra_c (by (conv => lhs; whnf); first | done | rfl) (by first | exact HasC.out | exact PutC.out | repeat (first | exact .here | apply Has.there | apply Put.there | apply Has.app | apply Put.app)) rfl (ra_t (by (conv => lhs; whnf); first | done | rfl) .nil)) (List.nil_sublist _) (⟨by rw [lwhr_end (by omega) hw]; rfl, rfl⟩)
theorem mayr_g {v : Value} {t : Tb} (h : TabR w0 L v t) : Gives Try.prog w0 L 76 [v] (fun v' L' => ∃ S, L' = S ++ L ∧ (May t → v' = v ∧ S = []) ∧ (¬ May t → TabO S v' (newT 4 1 1))) := by
  refine enterB (R := fun v' S => (May t → v' = v ∧ S = []) ∧ (¬ May t → TabO S v' (newT 4 1 1))) Try.func76 rfl Try.ntmps76 Try.results76 (Nat.le_of_ble_eq_true rfl) fun w hM => ?_
  have hT := h.at hM
  obtain ⟨vd, vh, vl, rfl, hd, hh, hlo⟩ := ((h).at hM).ex; obtain ⟨Ad, cd, rfl, hdc, hdl, hdA, hdR⟩ := id hd.ex; obtain ⟨Ah, ch, rfl, hhc, hhl, hhA, hhR⟩ := id hh.ex; obtain ⟨Al, cl, rfl, hlc, hll, hlA, hlR⟩ := LogR.opn hlo
  clear hM
  refine c_seq ?_
  refine c_region ?_
  refine x_boxa rfl (by (conv => lhs; whnf); first | done | rfl) ?_
  intro b1
  refine x_al rfl ?_
  intro b2
  refine w_nil ?_
  refine tq_n ?_
  refine c_seq ?_
  refine c_seq ?_
  refine c_region ?_
  refine x_ldao rfl (by (conv => lhs; whnf); first | done | rfl) (by first | exact HasC.out | exact PutC.out | repeat (first | exact .here | apply Has.there | apply Put.there | apply Has.app | apply Put.app)) rfl ?_
  refine x_callp (by decide) (checkr_g (hT.sub (List.nil_sublist _))) rfl rfl rfl ?_
  refine w_neq rfl (by (conv => lhs; whnf); first | done | rfl) (by (conv => lhs; whnf); first | done | rfl) ?_
  refine w_nil ?_
  refine tq_n ?_
  refine c_cond_d (by (conv => lhs; whnf); first | done | rfl) (fun hc5 => ?_) (fun hc5 => ?_)
  · have hm : ¬ May t := fun hm => hc5 (if_pos hm)
    refine c_region ?_
    refine x_call (newr_g) rfl rfl rfl ?_
    rintro _ _ ⟨S35, rfl, hS35⟩
    obtain ⟨tv, rfl, hO⟩ := hS35.1 (by decide)
    obtain ⟨Ad2, cd2, Ah2, ch2, Al2, cl2, rfl⟩ := (hO w _ (List.Sublist.refl _)).form
    refine w_mov rfl (by (conv => lhs; whnf); first | done | rfl) ?_
    refine w_ext rfl (by (conv => lhs; whnf); first | done | rfl) (by (conv => lhs; whnf); first | done | rfl) ?_
    refine w_ext rfl (by (conv => lhs; whnf); first | done | rfl) (by (conv => lhs; whnf); first | done | rfl) ?_
    refine x_stw rfl (by (conv => lhs; whnf); first | done | rfl) (by (conv => lhs; whnf); first | done | rfl) rfl rfl (by first | exact HasC.out | exact PutC.out | repeat (first | exact .here | apply Has.there | apply Put.there | apply Has.app | apply Put.app)) rfl ?_
    refine w_nil ?_
    refine tq_n ?_
    refine c_seq ?_
    refine c_region ?_
    refine x_ldao rfl (by (conv => lhs; whnf); first | done | rfl) (by first | exact HasC.out | exact PutC.out | repeat (first | exact .here | apply Has.there | apply Put.there | apply Has.app | apply Put.app)) rfl ?_
    refine x_stw rfl (by (conv => lhs; whnf); first | done | rfl) (by (conv => lhs; whnf); first | done | rfl) rfl rfl (by first | exact HasC.out | exact PutC.out | repeat (first | exact .here | apply Has.there | apply Put.there | apply Has.app | apply Put.app)) rfl ?_
    refine w_nil ?_
    refine tq_n ?_
    refine c_ret ?_
    exact rq_r (ra_c (by (conv => lhs; whnf); first | done | rfl) (by first | exact HasC.out | exact PutC.out | repeat (first | exact .here | apply Has.there | apply Put.there | apply Has.app | apply Put.app)) rfl .nil) (by first | exact SubL.out | repeat (first | exact List.Sublist.refl _ | exact List.nil_sublist _ | refine .cons_cons _ ?_ | refine .cons _ ?_ | refine List.Sublist.append (List.Sublist.refl _) ?_ | exact List.sublist_append_left _ _ | refine List.Sublist.trans ?_ (List.sublist_append_right _ _))) (⟨fun h => absurd h hm, fun _ => fun w1 L1 hs => hO w1 L1 ((show S35.Sublist _ from (by first | exact SubL.out | repeat (first | exact List.Sublist.refl _ | exact List.nil_sublist _ | refine .cons_cons _ ?_ | refine .cons _ ?_ | refine List.Sublist.append (List.Sublist.refl _) ?_ | exact List.sublist_append_left _ _ | refine List.Sublist.trans ?_ (List.sublist_append_right _ _)))).trans hs)⟩)
  · have hm : May t := Decidable.byContradiction fun hm => hc5 (by rw [if_neg hm]; decide)
    refine c_skip ?_
    refine tq_n ?_
    refine c_seq ?_
    refine c_region ?_
    refine x_ldao rfl (by (conv => lhs; whnf); first | done | rfl) (by first | exact HasC.out | exact PutC.out | repeat (first | exact .here | apply Has.there | apply Put.there | apply Has.app | apply Put.app)) rfl ?_
    refine x_stw rfl (by (conv => lhs; whnf); first | done | rfl) (by (conv => lhs; whnf); first | done | rfl) rfl rfl (by first | exact HasC.out | exact PutC.out | repeat (first | exact .here | apply Has.there | apply Put.there | apply Has.app | apply Put.app)) rfl ?_
    refine w_nil ?_
    refine tq_n ?_
    refine c_ret ?_
    exact rq_r (ra_c (by (conv => lhs; whnf); first | done | rfl) (by first | exact HasC.out | exact PutC.out | repeat (first | exact .here | apply Has.there | apply Put.there | apply Has.app | apply Put.app)) rfl .nil) (by first | exact SubL.out | repeat (first | exact List.Sublist.refl _ | exact List.nil_sublist _ | refine .cons_cons _ ?_ | refine .cons _ ?_ | refine List.Sublist.append (List.Sublist.refl _) ?_ | exact List.sublist_append_left _ _ | refine List.Sublist.trans ?_ (List.sublist_append_right _ _))) (⟨fun _ => ⟨rfl, rfl⟩, fun h => absurd hm h⟩)
theorem therer_g {v : Value} {t : Tb} {p : Int} (h : TabR w0 L v t) (hLi : Lists t) : Gives Try.prog w0 L 54 [v, .int .i64 p] (fun v' L' => v' = .bool (decide (inB t p)) ∧ L' = L) := by
  refine enterP Try.func54 rfl Try.ntmps54 Try.results54 (Nat.le_of_ble_eq_true rfl) fun w hM => ?_
  obtain ⟨vd, vh, vl, rfl, hd, hh, hlo⟩ := ((h).at hM).ex; obtain ⟨Ad, cd, rfl, hdc, hdl, hdA, hdR⟩ := id hd.ex; obtain ⟨Ah, ch, rfl, hhc, hhl, hhA, hhR⟩ := id hh.ex; obtain ⟨Al, cl, rfl, hlc, hll, hlA, hlR⟩ := LogR.opn hlo
  clear hM
  have hGP := gp_le hLi.1.1
  have hh3 := hLi.1.2.2.1
  have hpg : t.P * t.G = t.G * t.P := Int.mul_comm _ _
  refine c_seq ?_
  refine c_region ?_
  refine x_boxa rfl (by (conv => lhs; whnf); first | done | rfl) ?_
  intro b2
  refine w_asg rfl (by (conv => lhs; whnf); first | done | rfl) ?_
  refine w_nil ?_
  refine tq_n ?_
  refine c_seq ?_
  refine c_region_j [5, 6, 7, 8, 9, 10, 11, 12, 13, 14, 15, 4] 4 (.bool (decide (inB t p))) ?_ (fun g1 => ?_)
  · all_goals (refine w_mov rfl (by (conv => lhs; whnf); first | done | rfl) ?_)
    all_goals (refine w_geq rfl (by (conv => lhs; whnf); first | done | rfl) (by (conv => lhs; whnf); first | done | rfl) ?_)
    all_goals (refine w_mov rfl (by (conv => lhs; whnf); first | done | rfl) ?_)
    all_goals (first | refine w_lit true rfl rfl rfl ?_ | refine w_lit false rfl rfl rfl ?_ | refine w_cases_od rfl rfl rfl (fun hg => ?_) (fun hg => ?_) | refine w_cases_o rfl rfl rfl (fun hg => ?_) (fun hg => ?_) | skip)
    all_goals (first | refine w_skip rfl ?_ | (refine w_mov rfl (by (conv => lhs; whnf); first | done | rfl) ?_))
    all_goals (first | refine w_skip rfl ?_ | (refine x_fa rfl (by (conv => lhs; whnf); first | done | rfl) ?_))
    all_goals (first | refine w_skip rfl ?_ | (refine x_ldo rfl (by (conv => lhs; whnf); first | done | rfl) (by first | exact HasC.out | exact PutC.out | repeat (first | exact .here | apply Has.there | apply Put.there | apply Has.app | apply Put.app)) (by (conv => lhs; whnf); first | done | rfl) ?_))
    all_goals (first | refine w_skip rfl ?_ | (refine x_fa rfl (by (conv => lhs; whnf); first | done | rfl) ?_))
    all_goals (first | refine w_skip rfl ?_ | (refine x_ldo rfl (by (conv => lhs; whnf); first | done | rfl) (by first | exact HasC.out | exact PutC.out | repeat (first | exact .here | apply Has.there | apply Put.there | apply Has.app | apply Put.app)) (by (conv => lhs; whnf); first | done | rfl) ?_))
    all_goals (first | refine w_skip rfl ?_ | (refine w_mul rfl (by (conv => lhs; whnf); first | done | rfl) (by (conv => lhs; whnf); first | done | rfl) (by omega) ?_))
    all_goals (first | refine w_skip rfl ?_ | (refine w_lss rfl (by (conv => lhs; whnf); first | done | rfl) (by (conv => lhs; whnf); first | done | rfl) ?_))
    all_goals (first | refine w_pick_t rfl rfl (by (conv => lhs; whnf); first | done | rfl) ?_ | refine w_pick_f rfl rfl (by (conv => lhs; whnf); first | done | rfl) ?_)
    all_goals (refine w_asg rfl (by (conv => lhs; whnf); first | done | rfl) ?_)
    all_goals (refine w_nil ?_)
    all_goals (refine jn (by first | exact (Ag.upd rfl (Ag.upd rfl (Ag.upd rfl (Ag.upd rfl (Ag.upd rfl (Ag.upd rfl (Ag.upd rfl (Ag.upd rfl (Ag.upd rfl (Ag.upd rfl (Ag.upd rfl (Ag.upd rfl Ag.refl)))))))))))) | exact (by first | ((repeat (first | with_reducible exact Ag.refl | with_reducible exact Ag.ov | (with_reducible refine Ag.upd ?_ ?_; exact rfl) | with_reducible refine Ag.putn ?_ | (with_reducible refine Ag.ovs ?_ ?_; exact rfl))); done) | (repeat (first | exact Ag.refl | exact Ag.ov | (refine Ag.upd ?_ ?_; exact rfl) | refine Ag.putn ?_ | (refine Ag.ovs ?_ ?_; exact rfl))))) (by (conv => lhs; whnf); first | done | rfl) ?_)
    all_goals (exact congrArg Value.bool (by first | rfl | (refine decide_eq_decide.2 ?_; omega) | (refine (decide_eq_true ?_).symm; omega) | (refine (decide_eq_false ?_).symm; omega) | simp_all))
  refine tq_n ?_
  refine c_ret ?_
  exact rq_r (ra_t (by (conv => lhs; whnf); first | done | rfl) .nil) (List.nil_sublist _) (⟨rfl, rfl⟩)
theorem roomr_g {v : Value} {t : Tb} (h : TabR w0 L v t) : Gives Try.prog w0 L 56 [v] (fun v' L' => v' = .bool (decide (room t)) ∧ L' = L) := by
  refine enterP Try.func56 rfl Try.ntmps56 Try.results56 (Nat.le_of_ble_eq_true rfl) fun w hM => ?_
  obtain ⟨vd, vh, vl, rfl, hd, hh, hlo⟩ := ((h).at hM).ex; obtain ⟨Ad, cd, rfl, hdc, hdl, hdA, hdR⟩ := id hd.ex; obtain ⟨Ah, ch, rfl, hhc, hhl, hhA, hhR⟩ := id hh.ex; obtain ⟨Al, cl, rfl, hlc, hll, hlA, hlR⟩ := LogR.opn hlo
  clear hM
  obtain ⟨Ap, cp, m, hm, hn⟩ : ∃ Ap cp, ∃ m : Nat, m ≤ 1152921504606846976 ∧ (0 < t.lo.length → Rd w [] ⟨bk Al, of_ Al + ((t.lo.length : Int) - 1).toNat * 2 + 1, none⟩ (.slice Ap m cp) ∧ lastN t = m) := by
    by_cases hlt0 : 0 < t.lo.length
    · obtain ⟨Ap, cp, hpc, hpl, hpA, hpR, hpI, hph, hpv⟩ := hlR (t.lo.length - 1) _ (getN (by omega))
      exact ⟨Ap, cp, _, hpl, fun _ => ⟨by rw [show ((t.lo.length : Int) - 1).toNat = t.lo.length - 1 by omega]; exact hpv, lastN_of hlt0⟩⟩
    · exact ⟨none, 0, 0, by omega, fun h => absurd h hlt0⟩
  refine c_seq ?_
  refine c_region ?_
  refine x_boxa rfl (by (conv => lhs; whnf); first | done | rfl) ?_
  intro b1
  refine w_asg rfl (by (conv => lhs; whnf); first | done | rfl) ?_
  refine w_nil ?_
  refine tq_n ?_
  refine c_seq ?_
  refine c_draw_j mixed (by kernel_rfl) [3, 4, 5, 6, 7, 8, 9, 10, 11, 12, 13, 14, 15, 16, 17, 18, 19, 20, 21, 2] 2 (.bool (decide (room t))) ?_ (fun g1 => ?_)
  · all_goals (refine x_fa rfl (by (conv => lhs; whnf); first | done | rfl) ?_)
    all_goals (refine x_ldo rfl (by (conv => lhs; whnf); first | done | rfl) (by first | exact HasC.out | exact PutC.out | repeat (first | exact .here | apply Has.there | apply Put.there | apply Has.app | apply Put.app)) (by (conv => lhs; whnf); first | done | rfl) ?_)
    all_goals (refine x_len rfl (by (conv => lhs; whnf); first | done | rfl) ?_)
    all_goals (refine w_gtr rfl (by (conv => lhs; whnf); first | done | rfl) (by (conv => lhs; whnf); first | done | rfl) ?_)
    all_goals (refine w_mov rfl (by (conv => lhs; whnf); first | done | rfl) ?_)
    all_goals (first | refine w_lit true rfl rfl rfl ?_ | refine w_lit false rfl rfl rfl ?_ | refine w_cases_od rfl rfl rfl (fun hg => ?_) (fun hg => ?_) | refine w_cases_o rfl rfl rfl (fun hg => ?_) (fun hg => ?_) | skip)
    all_goals (first | refine w_skip rfl ?_ | (refine x_fa rfl (by (conv => lhs; whnf); first | done | rfl) ?_))
    all_goals (first | refine w_skip rfl ?_ | (refine x_ldo rfl (by (conv => lhs; whnf); first | done | rfl) (by first | exact HasC.out | exact PutC.out | repeat (first | exact .here | apply Has.there | apply Put.there | apply Has.app | apply Put.app)) (by (conv => lhs; whnf); first | done | rfl) ?_))
    all_goals (first | refine w_skip rfl ?_ | (refine x_fa rfl (by (conv => lhs; whnf); first | done | rfl) ?_))
    all_goals (first | refine w_skip rfl ?_ | (refine x_ldo rfl (by (conv => lhs; whnf); first | done | rfl) (by first | exact HasC.out | exact PutC.out | repeat (first | exact .here | apply Has.there | apply Put.there | apply Has.app | apply Put.app)) (by (conv => lhs; whnf); first | done | rfl) ?_))
    all_goals (first | refine w_skip rfl ?_ | (refine x_len rfl (by (conv => lhs; whnf); first | done | rfl) ?_))
    all_goals (first | refine w_skip rfl ?_ | (refine w_sub rfl (by (conv => lhs; whnf); first | done | rfl) (by (conv => lhs; whnf); first | done | rfl) (by omega) ?_))
    all_goals (first | refine w_skip rfl ?_ | (refine x_ixA rfl (by (conv => lhs; whnf); first | done | rfl) (by (conv => lhs; whnf); first | done | rfl) (hlA (fun e => by rw [e] at hg; exact absurd hg (by decide))) (by omega) (by omega) ?_))
    all_goals (first | refine w_skip rfl ?_ | (refine x_fa rfl (by (conv => lhs; whnf); first | done | rfl) ?_))
    all_goals (first | refine w_skip rfl ?_ | (refine x_ld rfl (by (conv => lhs; whnf); first | done | rfl) ((hn (by omega)).1.sub (List.nil_sublist _)) ?_))
    all_goals (first | refine w_skip rfl ?_ | (refine x_len rfl (by (conv => lhs; whnf); first | done | rfl) ?_))
    all_goals (first | refine w_skip rfl ?_ | (refine x_fa rfl (by (conv => lhs; whnf); first | done | rfl) ?_))
    all_goals (first | refine w_skip rfl ?_ | (refine x_ldo rfl (by (conv => lhs; whnf); first | done | rfl) (by first | exact HasC.out | exact PutC.out | repeat (first | exact .here | apply Has.there | apply Put.there | apply Has.app | apply Put.app)) (by (conv => lhs; whnf); first | done | rfl) ?_))
    all_goals (first | refine w_skip rfl ?_ | (refine w_lss rfl (by (conv => lhs; whnf); first | done | rfl) (by (conv => lhs; whnf); first | done | rfl) ?_))
    all_goals (first | refine w_pick_t rfl rfl (by (conv => lhs; whnf); first | done | rfl) ?_ | refine w_pick_f rfl rfl (by (conv => lhs; whnf); first | done | rfl) ?_)
    all_goals (refine w_asg rfl (by (conv => lhs; whnf); first | done | rfl) ?_)
    all_goals (refine w_nil ?_)
    all_goals (refine jn (by first | exact (Ag.upd rfl (Ag.upd rfl (Ag.upd rfl (Ag.upd rfl (Ag.upd rfl (Ag.upd rfl (Ag.upd rfl (Ag.upd rfl (Ag.upd rfl (Ag.upd rfl (Ag.upd rfl (Ag.upd rfl (Ag.upd rfl (Ag.upd rfl (Ag.upd rfl (Ag.upd rfl (Ag.upd rfl (Ag.upd rfl (Ag.upd rfl (Ag.upd rfl Ag.refl)))))))))))))))))))) | exact (by first | ((repeat (first | with_reducible exact Ag.refl | with_reducible exact Ag.ov | (with_reducible refine Ag.upd ?_ ?_; exact rfl) | with_reducible refine Ag.putn ?_ | (with_reducible refine Ag.ovs ?_ ?_; exact rfl))); done) | (repeat (first | exact Ag.refl | exact Ag.ov | (refine Ag.upd ?_ ?_; exact rfl) | refine Ag.putn ?_ | (refine Ag.ovs ?_ ?_; exact rfl))))) (by (conv => lhs; whnf); first | done | rfl) ?_)
    all_goals (exact congrArg Value.bool (by first | (refine decide_eq_decide.2 ?_; have := (hn (by omega)).2; unfold room; omega) | (refine (decide_eq_false ?_).symm; unfold room; omega)))
  refine tq_n ?_
  refine c_ret ?_
  exact rq_r (ra_t (by (conv => lhs; whnf); first | done | rfl) .nil) (List.nil_sublist _) (⟨rfl, rfl⟩)
theorem Wherer_g {v : Value} {t : Tb} {p : Int} (h : TabR w0 L v t) : Gives Try.prog w0 L 77 [v, .int .i64 p] (fun v' L' => v' = plcV (whrM t p) ∧ L' = L) := by
  refine enterP Try.func77 rfl Try.ntmps77 Try.results77 (Nat.le_of_ble_eq_true rfl) fun w hM => ?_
  have hT := h.at hM
  obtain ⟨vd, vh, vl, rfl, hd, hh, hlo⟩ := ((h).at hM).ex; obtain ⟨Ad, cd, rfl, hdc, hdl, hdA, hdR⟩ := id hd.ex; obtain ⟨Ah, ch, rfl, hhc, hhl, hhA, hhR⟩ := id hh.ex; obtain ⟨Al, cl, rfl, hlc, hll, hlA, hlR⟩ := LogR.opn hlo
  clear hM
  have hm := mayT_may t
  have hLi := hm.1
  have hh3 := hLi.1.2.2.1
  have hGP := gp_le hLi.1.1
  have hP : 4 ≤ (mayT t).P := hLi.1.1.1.1
  refine c_seq ?_
  refine c_region ?_
  refine x_boxa rfl (by (conv => lhs; whnf); first | done | rfl) ?_
  intro b2
  refine x_al rfl ?_
  intro b4
  refine w_asg rfl (by (conv => lhs; whnf); first | done | rfl) ?_
  refine w_nil ?_
  refine tq_n ?_
  refine c_seq ?_
  refine c_region ?_
  refine x_ldao rfl (by (conv => lhs; whnf); first | done | rfl) (by first | exact HasC.out | exact PutC.out | repeat (first | exact .here | apply Has.there | apply Put.there | apply Has.app | apply Put.app)) rfl ?_
  refine x_call (mayr_g (hT.sub (List.nil_sublist _))) rfl rfl rfl ?_
  rintro _ _ ⟨S65, rfl, hS1, hS2⟩
  have hT2 := may_R hT hS1 hS2 (List.Sublist.refl _)
  obtain ⟨Ad2, cd2, Ah2, ch2, Al2, cl2, rfl⟩ := hT2.form
  obtain ⟨hd2, hh2, hlo2⟩ := hT2.lists
  obtain ⟨_, _, ea, hdc2, hdl2, hdA2, hdR2⟩ := id hd2.ex
  cases ea
  obtain ⟨_, _, ea, hhc2, hhl2, hhA2, hhR2⟩ := id hh2.ex
  cases ea
  refine x_stw rfl (by (conv => lhs; whnf); first | done | rfl) (by (conv => lhs; whnf); first | done | rfl) rfl rfl (by first | exact HasC.out | exact PutC.out | repeat (first | exact .here | apply Has.there | apply Put.there | apply Has.app | apply Put.app)) rfl ?_
  refine w_nil ?_
  refine tq_n ?_
  refine c_seq ?_
  refine c_seq ?_
  refine c_region ?_
  refine x_ldao rfl (by (conv => lhs; whnf); first | done | rfl) (by first | exact HasC.out | exact PutC.out | repeat (first | exact .here | apply Has.there | apply Put.there | apply Has.app | apply Put.app)) rfl ?_
  refine w_mov rfl (by (conv => lhs; whnf); first | done | rfl) ?_
  refine x_callp (by decide) (therer_g (p := p) (may_R hT hS1 hS2 (by first | exact SubL.out | repeat (first | exact List.Sublist.refl _ | exact List.nil_sublist _ | refine .cons_cons _ ?_ | refine .cons _ ?_ | refine List.Sublist.append (List.Sublist.refl _) ?_ | exact List.sublist_append_left _ _ | refine List.Sublist.trans ?_ (List.sublist_append_right _ _)))) hLi) rfl rfl rfl ?_
  refine w_notd rfl (by (conv => lhs; whnf); first | done | rfl) ?_
  refine w_nil ?_
  refine tq_n ?_
  refine c_cond_d (by (conv => lhs; whnf); first | done | rfl) (fun hc15 => ?_) (fun hc15 => ?_)
  · refine c_seq ?_
    refine c_region ?_
    refine x_bld rfl .nil rfl ?_
    refine x_stw rfl (by (conv => lhs; whnf); first | done | rfl) (by (conv => lhs; whnf); first | done | rfl) rfl rfl (by first | exact HasC.out | exact PutC.out | repeat (first | exact .here | apply Has.there | apply Put.there | apply Has.app | apply Put.app)) rfl ?_
    refine w_asg rfl (by (conv => lhs; whnf); first | done | rfl) ?_
    refine w_nil ?_
    refine tq_n ?_
    refine c_ret ?_
    refine tq_r ?_
    exact rq_r (ra_c (by (conv => lhs; whnf); first | done | rfl) (by first | exact HasC.out | exact PutC.out | repeat (first | exact .here | apply Has.there | apply Put.there | apply Has.app | apply Put.app)) rfl (ra_t (by (conv => lhs; whnf); first | done | rfl) .nil)) (List.nil_sublist _) (⟨by rw [whrM, if_neg hc15]; rfl, rfl⟩)
  · have hin := Decidable.not_not.1 hc15
    have hplt : p.toNat < (mayT t).ha.length := (by omega)
    have hdlt := div_lt' hLi hin.1 (by omega)
    have hdp : 0 ≤ p / (mayT t).P := Int.ediv_nonneg hin.1 (by omega)
    have hwm : whrM t p = whr (mayT t) p := if_pos hin
    rw [hwm]
    refine c_skip ?_
    refine tq_n ?_
    refine c_seq ?_
    refine c_seq ?_
    refine c_region ?_
    refine x_ldao rfl (by (conv => lhs; whnf); first | done | rfl) (by first | exact HasC.out | exact PutC.out | repeat (first | exact .here | apply Has.there | apply Put.there | apply Has.app | apply Put.app)) rfl ?_
    refine w_mov rfl (by (conv => lhs; whnf); first | done | rfl) ?_
    refine x_callp (by decide) (loggedr_g (p := p) (may_R hT hS1 hS2 (by first | exact SubL.out | repeat (first | exact List.Sublist.refl _ | exact List.nil_sublist _ | refine .cons_cons _ ?_ | refine .cons _ ?_ | refine List.Sublist.append (List.Sublist.refl _) ?_ | exact List.sublist_append_left _ _ | refine List.Sublist.trans ?_ (List.sublist_append_right _ _))))) rfl rfl rfl ?_
    refine w_mov rfl (by (conv => lhs; whnf); first | done | rfl) ?_
    refine w_ext rfl (by (conv => lhs; whnf); first | done | rfl) (by (conv => lhs; whnf); first | done | rfl) ?_
    refine w_ext rfl (by (conv => lhs; whnf); first | done | rfl) (by (conv => lhs; whnf); first | done | rfl) ?_
    refine x_al rfl ?_
    intro b6
    refine x_stw rfl (by (conv => lhs; whnf); first | done | rfl) (by (conv => lhs; whnf); first | done | rfl) rfl rfl (by first | exact HasC.out | exact PutC.out | repeat (first | exact .here | apply Has.there | apply Put.there | apply Has.app | apply Put.app)) rfl ?_
    refine w_asg rfl (by (conv => lhs; whnf); first | done | rfl) ?_
    refine w_nil ?_
    refine tq_n ?_
    refine c_seq ?_
    refine c_region ?_
    refine w_mov rfl (by (conv => lhs; whnf); first | done | rfl) ?_
    refine w_nil ?_
    refine tq_n ?_
    refine c_cond (by (conv => lhs; whnf); first | done | rfl) (fun hc23 => ?_) (fun hc23 => ?_)
    · obtain ⟨x, hx⟩ := Option.isSome_iff_exists.1 hc23
      refine c_seq ?_
      refine c_region ?_
      refine x_ldao rfl (by (conv => lhs; whnf); first | done | rfl) (by first | exact HasC.out | exact PutC.out | repeat (first | exact .here | apply Has.there | apply Put.there | apply Has.app | apply Put.app)) rfl ?_
      refine x_stw rfl (by (conv => lhs; whnf); first | done | rfl) (by (conv => lhs; whnf); first | done | rfl) rfl rfl (by first | exact HasC.out | exact PutC.out | repeat (first | exact .here | apply Has.there | apply Put.there | apply Has.app | apply Put.app)) rfl ?_
      refine w_asg rfl (by (conv => lhs; whnf); first | done | rfl) ?_
      refine w_nil ?_
      refine tq_n ?_
      refine c_ret ?_
      refine tq_r ?_
      exact rq_r (ra_c (by (conv => lhs; whnf); first | done | rfl) (by first | exact HasC.out | exact PutC.out | repeat (first | exact .here | apply Has.there | apply Put.there | apply Has.app | apply Put.app)) rfl (ra_t (by (conv => lhs; whnf); first | done | rfl) .nil)) (List.nil_sublist _) (⟨by rw [whr_log hx, hx]; rfl, rfl⟩)
    · have hwn : lwhr (mayT t).lo p = none := (by rw [← Option.not_isSome_iff_eq_none, hc23]; decide)
      refine c_skip ?_
      refine tq_n ?_
      refine c_seq ?_
      refine c_draw mixed (by kernel_rfl) ?_
      refine w_mov rfl (by (conv => lhs; whnf); first | done | rfl) ?_
      refine x_fa rfl (by (conv => lhs; whnf); first | done | rfl) ?_
      refine x_ldo rfl (by (conv => lhs; whnf); first | done | rfl) (by first | exact HasC.out | exact PutC.out | repeat (first | exact .here | apply Has.there | apply Put.there | apply Has.app | apply Put.app)) (by (conv => lhs; whnf); first | done | rfl) ?_
      refine w_quo rfl (by (conv => lhs; whnf); first | done | rfl) (by (conv => lhs; whnf); first | done | rfl) (by omega) (by omega) (by omega) ?_
      refine w_mov rfl (by (conv => lhs; whnf); first | done | rfl) ?_
      refine x_fa rfl (by (conv => lhs; whnf); first | done | rfl) ?_
      refine x_ldo rfl (by (conv => lhs; whnf); first | done | rfl) (by first | exact HasC.out | exact PutC.out | repeat (first | exact .here | apply Has.there | apply Put.there | apply Has.app | apply Put.app)) (by (conv => lhs; whnf); first | done | rfl) ?_
      refine w_rem rfl (by (conv => lhs; whnf); first | done | rfl) (by (conv => lhs; whnf); first | done | rfl) (by omega) (by omega) ?_
      refine w_asg rfl (by (conv => lhs; whnf); first | done | rfl) ?_
      refine w_asg rfl (by (conv => lhs; whnf); first | done | rfl) ?_
      refine w_nil ?_
      refine tq_n ?_
      refine c_seq ?_
      refine c_seq ?_
      refine c_region_j [33, 34, 35, 36, 37, 38, 39, 40, 41, 42, 43, 44, 45, 46, 47, 48, 49, 50] 50 (.bool (decide (0 ≤ (mayT t).sp ∧ (mayT t).sl = p / (mayT t).P ∧ p % (mayT t).P < (mayT t).su))) ?_ (fun g8 => ?_)
      · all_goals (refine x_fa rfl (by (conv => lhs; whnf); first | done | rfl) ?_)
        all_goals (refine x_fa rfl (by (conv => lhs; whnf); first | done | rfl) ?_)
        all_goals (refine x_ldo rfl (by (conv => lhs; whnf); first | done | rfl) (by first | exact HasC.out | exact PutC.out | repeat (first | exact .here | apply Has.there | apply Put.there | apply Has.app | apply Put.app)) (by (conv => lhs; whnf); first | done | rfl) ?_)
        all_goals (refine w_geq rfl (by (conv => lhs; whnf); first | done | rfl) (by (conv => lhs; whnf); first | done | rfl) ?_)
        all_goals (refine w_mov rfl (by (conv => lhs; whnf); first | done | rfl) ?_)
        all_goals (first | refine w_lit true rfl rfl rfl ?_ | refine w_lit false rfl rfl rfl ?_ | refine w_cases_od rfl rfl rfl (fun hg => ?_) (fun hg => ?_) | refine w_cases_o rfl rfl rfl (fun hg => ?_) (fun hg => ?_) | skip)
        all_goals (first | refine w_skip rfl ?_ | (refine x_fa rfl (by (conv => lhs; whnf); first | done | rfl) ?_))
        all_goals (first | refine w_skip rfl ?_ | (refine x_fa rfl (by (conv => lhs; whnf); first | done | rfl) ?_))
        all_goals (first | refine w_skip rfl ?_ | (refine x_ldo rfl (by (conv => lhs; whnf); first | done | rfl) (by first | exact HasC.out | exact PutC.out | repeat (first | exact .here | apply Has.there | apply Put.there | apply Has.app | apply Put.app)) (by (conv => lhs; whnf); first | done | rfl) ?_))
        all_goals (first | refine w_skip rfl ?_ | (refine w_mov rfl (by (conv => lhs; whnf); first | done | rfl) ?_))
        all_goals (first | refine w_skip rfl ?_ | (refine w_eql rfl (by (conv => lhs; whnf); first | done | rfl) (by (conv => lhs; whnf); first | done | rfl) ?_))
        all_goals (first | refine w_pick_t rfl rfl (by (conv => lhs; whnf); first | done | rfl) ?_ | refine w_pick_f rfl rfl (by (conv => lhs; whnf); first | done | rfl) ?_)
        all_goals (refine w_mov rfl (by (conv => lhs; whnf); first | done | rfl) ?_)
        all_goals (first | refine w_lit true rfl rfl rfl ?_ | refine w_lit false rfl rfl rfl ?_ | refine w_cases_od rfl rfl rfl (fun hg => ?_) (fun hg => ?_) | refine w_cases_o rfl rfl rfl (fun hg => ?_) (fun hg => ?_) | skip)
        all_goals (first | refine w_skip rfl ?_ | (refine w_mov rfl (by (conv => lhs; whnf); first | done | rfl) ?_))
        all_goals (first | refine w_skip rfl ?_ | (refine x_fa rfl (by (conv => lhs; whnf); first | done | rfl) ?_))
        all_goals (first | refine w_skip rfl ?_ | (refine x_fa rfl (by (conv => lhs; whnf); first | done | rfl) ?_))
        all_goals (first | refine w_skip rfl ?_ | (refine x_ldo rfl (by (conv => lhs; whnf); first | done | rfl) (by first | exact HasC.out | exact PutC.out | repeat (first | exact .here | apply Has.there | apply Put.there | apply Has.app | apply Put.app)) (by (conv => lhs; whnf); first | done | rfl) ?_))
        all_goals (first | refine w_skip rfl ?_ | (refine w_lss rfl (by (conv => lhs; whnf); first | done | rfl) (by (conv => lhs; whnf); first | done | rfl) ?_))
        all_goals (first | refine w_pick_t rfl rfl (by (conv => lhs; whnf); first | done | rfl) ?_ | refine w_pick_f rfl rfl (by (conv => lhs; whnf); first | done | rfl) ?_)
        all_goals (refine w_nil ?_)
        all_goals (refine jn (by first | exact (Ag.upd rfl (Ag.upd rfl (Ag.upd rfl (Ag.upd rfl (Ag.upd rfl (Ag.upd rfl (Ag.upd rfl (Ag.upd rfl (Ag.upd rfl (Ag.upd rfl (Ag.upd rfl (Ag.upd rfl (Ag.upd rfl (Ag.upd rfl (Ag.upd rfl (Ag.upd rfl (Ag.upd rfl (Ag.upd rfl Ag.refl)))))))))))))))))) | exact (by first | ((repeat (first | with_reducible exact Ag.refl | with_reducible exact Ag.ov | (with_reducible refine Ag.upd ?_ ?_; exact rfl) | with_reducible refine Ag.putn ?_ | (with_reducible refine Ag.ovs ?_ ?_; exact rfl))); done) | (repeat (first | exact Ag.refl | exact Ag.ov | (refine Ag.upd ?_ ?_; exact rfl) | refine Ag.putn ?_ | (refine Ag.ovs ?_ ?_; exact rfl))))) (by (conv => lhs; whnf); first | done | rfl) ?_)
        all_goals (exact congrArg Value.bool (by first | rfl | (refine decide_eq_decide.2 ?_; omega) | (refine (decide_eq_true ?_).symm; omega) | (refine (decide_eq_false ?_).symm; omega) | simp_all))
      refine tq_n ?_
      refine c_cond_d (by (conv => lhs; whnf); first | done | rfl) (fun hc50 => ?_) (fun hc50 => ?_)
      · refine c_seq ?_
        refine c_region ?_
        refine x_fa rfl (by (conv => lhs; whnf); first | done | rfl) ?_
        refine x_fa rfl (by (conv => lhs; whnf); first | done | rfl) ?_
        refine x_ldo rfl (by (conv => lhs; whnf); first | done | rfl) (by first | exact HasC.out | exact PutC.out | repeat (first | exact .here | apply Has.there | apply Put.there | apply Has.app | apply Put.app)) (by (conv => lhs; whnf); first | done | rfl) ?_
        refine w_mov rfl (by (conv => lhs; whnf); first | done | rfl) ?_
        refine x_bld rfl (.cons (by (conv => lhs; whnf); first | done | rfl) (.cons (by (conv => lhs; whnf); first | done | rfl) .nil)) rfl ?_
        refine x_stw rfl (by (conv => lhs; whnf); first | done | rfl) (by (conv => lhs; whnf); first | done | rfl) rfl rfl (by first | exact HasC.out | exact PutC.out | repeat (first | exact .here | apply Has.there | apply Put.there | apply Has.app | apply Put.app)) rfl ?_
        refine w_asg rfl (by (conv => lhs; whnf); first | done | rfl) ?_
        refine w_nil ?_
        refine tq_n ?_
        refine c_ret ?_
        refine tq_r ?_
        exact rq_r (ra_c (by (conv => lhs; whnf); first | done | rfl) (by first | exact HasC.out | exact PutC.out | repeat (first | exact .here | apply Has.there | apply Put.there | apply Has.app | apply Put.app)) rfl (ra_t (by (conv => lhs; whnf); first | done | rfl) .nil)) (List.nil_sublist _) (⟨by rw [whr_seq hwn hc50]; rfl, rfl⟩)
      · refine c_skip ?_
        refine tq_n ?_
        refine c_seq ?_
        refine c_seq ?_
        refine c_region ?_
        refine x_fa rfl (by (conv => lhs; whnf); first | done | rfl) ?_
        refine x_ldo rfl (by (conv => lhs; whnf); first | done | rfl) (by first | exact HasC.out | exact PutC.out | repeat (first | exact .here | apply Has.there | apply Put.there | apply Has.app | apply Put.app)) (by (conv => lhs; whnf); first | done | rfl) ?_
        refine w_mov rfl (by (conv => lhs; whnf); first | done | rfl) ?_
        refine x_ixA rfl (by (conv => lhs; whnf); first | done | rfl) (by (conv => lhs; whnf); first | done | rfl) (hhA2 (ne_of_lt hplt)) (by omega) (by omega) ?_
        refine x_ld rfl (by (conv => lhs; whnf); first | done | rfl) (rdB' (j := p) (by first | exact SubL.out | repeat (first | exact List.Sublist.refl _ | exact List.nil_sublist _ | refine .cons_cons _ ?_ | refine .cons _ ?_ | refine List.Sublist.append (List.Sublist.refl _) ?_ | exact List.sublist_append_left _ _ | refine List.Sublist.trans ?_ (List.sublist_append_right _ _))) hhR2 (getN hplt)) ?_
        refine w_nil ?_
        refine tq_n ?_
        refine c_cond (by (conv => lhs; whnf); first | done | rfl) (fun hc60 => ?_) (fun hc60 => ?_)
        · refine c_seq ?_
          refine c_region ?_
          refine x_fa rfl (by (conv => lhs; whnf); first | done | rfl) ?_
          refine x_ldo rfl (by (conv => lhs; whnf); first | done | rfl) (by first | exact HasC.out | exact PutC.out | repeat (first | exact .here | apply Has.there | apply Put.there | apply Has.app | apply Put.app)) (by (conv => lhs; whnf); first | done | rfl) ?_
          refine w_mov rfl (by (conv => lhs; whnf); first | done | rfl) ?_
          refine x_ixA rfl (by (conv => lhs; whnf); first | done | rfl) (by (conv => lhs; whnf); first | done | rfl) (hdA2 (ne_of_lt hdlt)) (hdp) (by omega) ?_
          refine x_ld rfl (by (conv => lhs; whnf); first | done | rfl) (rdI' (j := p / (mayT t).P) (by first | exact SubL.out | repeat (first | exact List.Sublist.refl _ | exact List.nil_sublist _ | refine .cons_cons _ ?_ | refine .cons _ ?_ | refine List.Sublist.append (List.Sublist.refl _) ?_ | exact List.sublist_append_left _ _ | refine List.Sublist.trans ?_ (List.sublist_append_right _ _))) hdR2 (getN hdlt)) ?_
          refine w_mov rfl (by (conv => lhs; whnf); first | done | rfl) ?_
          refine x_bld rfl (.cons (by (conv => lhs; whnf); first | done | rfl) (.cons (by (conv => lhs; whnf); first | done | rfl) .nil)) rfl ?_
          refine x_stw rfl (by (conv => lhs; whnf); first | done | rfl) (by (conv => lhs; whnf); first | done | rfl) rfl rfl (by first | exact HasC.out | exact PutC.out | repeat (first | exact .here | apply Has.there | apply Put.there | apply Has.app | apply Put.app)) rfl ?_
          refine w_asg rfl (by (conv => lhs; whnf); first | done | rfl) ?_
          refine w_nil ?_
          refine tq_n ?_
          refine c_ret ?_
          refine tq_r ?_
          exact rq_r (ra_c (by (conv => lhs; whnf); first | done | rfl) (by first | exact HasC.out | exact PutC.out | repeat (first | exact .here | apply Has.there | apply Put.there | apply Has.app | apply Put.app)) rfl (ra_t (by (conv => lhs; whnf); first | done | rfl) .nil)) (List.nil_sublist _) (⟨by rw [whr_dat hwn hc50 hplt hc60 hdlt]; rfl, rfl⟩)
        · refine c_skip ?_
          refine tq_n ?_
          refine c_seq ?_
          refine c_region ?_
          refine x_bld rfl .nil rfl ?_
          refine x_stw rfl (by (conv => lhs; whnf); first | done | rfl) (by (conv => lhs; whnf); first | done | rfl) rfl rfl (by first | exact HasC.out | exact PutC.out | repeat (first | exact .here | apply Has.there | apply Put.there | apply Has.app | apply Put.app)) rfl ?_
          refine w_asg rfl (by (conv => lhs; whnf); first | done | rfl) ?_
          refine w_nil ?_
          refine tq_n ?_
          refine c_ret ?_
          exact rq_r (ra_c (by (conv => lhs; whnf); first | done | rfl) (by first | exact HasC.out | exact PutC.out | repeat (first | exact .here | apply Has.there | apply Put.there | apply Has.app | apply Put.app)) rfl (ra_t (by (conv => lhs; whnf); first | done | rfl) .nil)) (List.nil_sublist _) (⟨by rw [whr_non hwn hc50 hplt (by rw [hc60]; decide)]; rfl, rfl⟩)
theorem overr_g {v : Value} {t : Tb} (h : TabR w0 L v t) (hLi : Lists t) : Gives Try.prog w0 L 55 [v] (fun v' L' => v' = .bool (decide (lgd t = true)) ∧ L' = L) := by
  refine enterP Try.func55 rfl Try.ntmps55 Try.results55 (Nat.le_of_ble_eq_true rfl) fun w hM => ?_
  have hT := h.at hM
  obtain ⟨vd, vh, vl, rfl, hd, hh, hlo⟩ := ((h).at hM).ex; obtain ⟨Ad, cd, rfl, hdc, hdl, hdA, hdR⟩ := id hd.ex; obtain ⟨Ah, ch, rfl, hhc, hhl, hhA, hhR⟩ := id hh.ex; obtain ⟨Al, cl, rfl, hlc, hll, hlA, hlR⟩ := LogR.opn hlo
  clear hM
  have hP : 4 ≤ t.P := hLi.1.1.1.1
  have hsu : (t.sp = -1 ∧ t.sl = 0 ∧ t.su = 0) ∨ ((0 ≤ t.sp ∧ t.sp ≤ 255) ∧ (0 ≤ t.sl ∧ t.sl ≤ t.G - 1) ∧ 0 ≤ t.su ∧ t.su ≤ t.P) := hLi.2.2
  refine c_seq ?_
  refine c_region ?_
  refine x_boxa rfl (by (conv => lhs; whnf); first | done | rfl) ?_
  intro b1
  refine w_asg rfl (by (conv => lhs; whnf); first | done | rfl) ?_
  refine w_nil ?_
  refine tq_n ?_
  refine c_seq ?_
  refine c_seq ?_
  refine c_region ?_
  refine w_asg rfl (by (conv => lhs; whnf); first | done | rfl) ?_
  refine w_nil ?_
  refine tq_n ?_
  refine c_block ?_
  refine c_loop_ov [6, 7, 8, 9, 10, 14, 15, 16, 17, 18, 19, 20, 21, 22, 23, 13, 24, 25, 4, 5, 26, 2, 11, 12, 3] (fun m s L => ∃ (k : Nat), (k : Int) ≤ t.su ∧ (∀ o : Int, 0 ≤ o → o < k → lwhr t.lo (t.sl * t.P + o) = none) ∧ m = t.su.toNat - k ∧ s = [(3, .int .i64 k)] ∧ L = [(b1, B 43 (cT t Ad cd Ah ch Al cl))]) (t.su.toNat) [(3, .int .i64 (0 : Nat))] (by repeat (first | exact .nil | refine .cons rfl ?_)) (by first | exact SubL.out | repeat (first | exact List.Sublist.refl _ | exact List.nil_sublist _ | refine .cons_cons _ ?_ | refine .cons _ ?_ | refine List.Sublist.append (List.Sublist.refl _) ?_ | exact List.sublist_append_left _ _ | refine List.Sublist.trans ?_ (List.sublist_append_right _ _))) (⟨0, by omega, fun o h1 h2 => by omega, by omega, rfl, rfl⟩) ?_
  rintro mI sI LI gL0 ⟨k, hk, hn, rfl, rfl, rfl⟩
  refine c_seq ?_
  refine c_seq ?_
  refine c_region ?_
  refine w_mov rfl (by (conv => lhs; whnf); first | done | rfl) ?_
  refine x_fa rfl (by (conv => lhs; whnf); first | done | rfl) ?_
  refine x_fa rfl (by (conv => lhs; whnf); first | done | rfl) ?_
  refine x_ldo rfl (by (conv => lhs; whnf); first | done | rfl) (by first | exact HasC.out | exact PutC.out | repeat (first | exact .here | apply Has.there | apply Put.there | apply Has.app | apply Put.app)) (by (conv => lhs; whnf); first | done | rfl) ?_
  refine w_lss rfl (by (conv => lhs; whnf); first | done | rfl) (by (conv => lhs; whnf); first | done | rfl) ?_
  refine w_nil ?_
  refine tq_n ?_
  refine c_cond_d (by (conv => lhs; whnf); first | done | rfl) (fun hc10 => ?_) (fun hc10 => ?_)
  · have hb := pg_in (b := t.sl) (o := (k : Int)) hLi (by omega) (by omega) (by omega) (by omega)
    refine c_skip ?_
    refine tq_n ?_
    refine c_seq ?_
    refine c_block ?_
    refine c_seq ?_
    refine c_region ?_
    refine x_ldao rfl (by (conv => lhs; whnf); first | done | rfl) (by first | exact HasC.out | exact PutC.out | repeat (first | exact .here | apply Has.there | apply Put.there | apply Has.app | apply Put.app)) rfl ?_
    refine x_fa rfl (by (conv => lhs; whnf); first | done | rfl) ?_
    refine x_fa rfl (by (conv => lhs; whnf); first | done | rfl) ?_
    refine x_ldo rfl (by (conv => lhs; whnf); first | done | rfl) (by first | exact HasC.out | exact PutC.out | repeat (first | exact .here | apply Has.there | apply Put.there | apply Has.app | apply Put.app)) (by (conv => lhs; whnf); first | done | rfl) ?_
    refine x_fa rfl (by (conv => lhs; whnf); first | done | rfl) ?_
    refine x_ldo rfl (by (conv => lhs; whnf); first | done | rfl) (by first | exact HasC.out | exact PutC.out | repeat (first | exact .here | apply Has.there | apply Put.there | apply Has.app | apply Put.app)) (by (conv => lhs; whnf); first | done | rfl) ?_
    refine w_mul rfl (by (conv => lhs; whnf); first | done | rfl) (by (conv => lhs; whnf); first | done | rfl) (by omega) ?_
    refine w_mov rfl (by (conv => lhs; whnf); first | done | rfl) ?_
    refine w_add rfl (by (conv => lhs; whnf); first | done | rfl) (by (conv => lhs; whnf); first | done | rfl) (by omega) ?_
    refine x_callp (by decide) (loggedr_g (p := t.sl * t.P + (k : Int)) (hT.sub (List.nil_sublist _))) rfl rfl rfl ?_
    refine w_mov rfl (by (conv => lhs; whnf); first | done | rfl) ?_
    refine w_ext rfl (by (conv => lhs; whnf); first | done | rfl) (by (conv => lhs; whnf); first | done | rfl) ?_
    refine w_ext rfl (by (conv => lhs; whnf); first | done | rfl) (by (conv => lhs; whnf); first | done | rfl) ?_
    refine x_al rfl ?_
    intro b4
    refine x_stw rfl (by (conv => lhs; whnf); first | done | rfl) (by (conv => lhs; whnf); first | done | rfl) rfl rfl (by first | exact HasC.out | exact PutC.out | repeat (first | exact .here | apply Has.there | apply Put.there | apply Has.app | apply Put.app)) rfl ?_
    refine w_asg rfl (by (conv => lhs; whnf); first | done | rfl) ?_
    refine w_nil ?_
    refine tq_n ?_
    refine c_seq ?_
    refine c_region ?_
    refine w_mov rfl (by (conv => lhs; whnf); first | done | rfl) ?_
    refine w_nil ?_
    refine tq_n ?_
    refine c_cond (by (conv => lhs; whnf); first | done | rfl) (fun hc26 => ?_) (fun hc26 => ?_)
    · refine c_seq ?_
      refine c_region ?_
      refine w_asg rfl (by (conv => lhs; whnf); first | done | rfl) ?_
      refine w_nil ?_
      refine tq_n ?_
      refine c_ret ?_
      refine bq_r ?_
      refine tq_r ?_
      refine tq_r ?_
      refine bq_r ?_
      refine tq_r ?_
      exact rq_r (ra_t (by (conv => lhs; whnf); first | done | rfl) .nil) (List.nil_sublist _) (⟨by rw [over_hit (by omega) (by omega) (by omega) (by omega) hc26]; rfl, rfl⟩)
    · have hwn : lwhr t.lo (t.sl * t.P + (k : Int)) = none := (by rw [← Option.not_isSome_iff_eq_none, hc26]; decide)
      refine c_skip ?_
      refine bq_n ?_
      refine tq_n ?_
      refine c_region ?_
      refine w_mov rfl (by (conv => lhs; whnf); first | done | rfl) ?_
      refine w_add rfl (by (conv => lhs; whnf); first | done | rfl) (by (conv => lhs; whnf); first | done | rfl) (by omega) ?_
      refine w_asg rfl (by (conv => lhs; whnf); first | done | rfl) ?_
      refine w_nil ?_
      refine tq_n ?_
      exact ⟨(by first | ((repeat (first | with_reducible exact Ag.refl | with_reducible exact Ag.ov | (with_reducible refine Ag.upd ?_ ?_; exact rfl) | with_reducible refine Ag.putn ?_ | (with_reducible refine Ag.ovs ?_ ?_; exact rfl))); done) | (repeat (first | exact Ag.refl | exact Ag.ov | (refine Ag.upd ?_ ?_; exact rfl) | refine Ag.putn ?_ | (refine Ag.ovs ?_ ?_; exact rfl)))), t.su.toNat - (k + 1), [(3, .int .i64 ((k + 1 : Nat) : Int))], _, by omega, (by first | exact SubL.out | repeat (first | exact List.Sublist.refl _ | exact List.nil_sublist _ | refine .cons_cons _ ?_ | refine .cons _ ?_ | refine List.Sublist.append (List.Sublist.refl _) ?_ | exact List.sublist_append_left _ _ | refine List.Sublist.trans ?_ (List.sublist_append_right _ _))), (by repeat (first | exact .nil | refine .cons rfl ?_)), ⟨k + 1, by omega, fun o h1 h2 => by by_cases hok : o = k; (subst hok; exact hwn); exact hn o h1 (by omega), rfl, rfl, rfl⟩⟩
  · refine c_exit ?_
    refine tq_e ?_
    refine tq_e ?_
    refine bq_e ?_
    refine tq_n ?_
    refine c_seq ?_
    refine c_region ?_
    refine w_asg rfl (by (conv => lhs; whnf); first | done | rfl) ?_
    refine w_nil ?_
    refine tq_n ?_
    refine c_ret ?_
    exact rq_r (ra_t (by (conv => lhs; whnf); first | done | rfl) .nil) (List.nil_sublist _) (⟨by rw [over_none (by omega) (fun o h1 h2 => hn o h1 (by omega))]; rfl, rfl⟩)
/-- What the reference's Want answers is what plan's does. -/
def wantQ (t : Tb) (p : Int) : Int × Int := if (0 ≤ t.sp ∧ t.sl = p / t.P) ∧ t.su = p % t.P then (1, p / t.P) else if p % t.P = 0 then (if t.sp < 0 then (3, p / t.P) else if lgd t = true then (7, t.sl) else if t.su = t.P then (5, t.sl) else (6, t.sl)) else wantR t
theorem wantQ_eq {t : Tb} {p : Int} (h : t.su ≤ t.P) : wantQ t p = wantP t p := by
  unfold wantQ wantP wantS
  by_cases h0 : p % t.P = 0
  · rw [if_pos h0, if_pos h0]
    by_cases h1 : t.sp < 0
    · rw [if_neg (by omega), if_pos h1, if_pos h1]
    · rw [if_neg h1, if_neg h1]
      by_cases h2 : t.sl = p / t.P ∧ t.su = 0
      · rw [if_pos ⟨⟨by omega, h2.1⟩, by omega⟩, if_pos h2]
      · rw [if_neg (fun hh => h2 ⟨hh.1.2, by omega⟩), if_neg h2]
        by_cases h3 : lgd t = true
        · rw [if_pos h3, if_pos h3]
        · rw [if_neg h3, if_neg h3]
          by_cases h4 : t.su = t.P
          · rw [if_pos h4, if_neg (by omega)]
          · rw [if_neg h4, if_pos (by omega)]
  · rw [if_neg h0, if_neg h0]
theorem wantr_g {v : Value} {t : Tb} {p : Int} (h : TabR w0 L v t) : Gives Try.prog w0 L 19 [v, .int .i64 p] (fun v' L' => v' = weV (want t p) ∧ L' = L) := by
  refine enterP Try.func19 rfl Try.ntmps19 Try.results19 (Nat.le_of_ble_eq_true rfl) fun w hM => ?_
  have hT := h.at hM
  obtain ⟨vd, vh, vl, rfl, hd, hh, hlo⟩ := ((h).at hM).ex; obtain ⟨Ad, cd, rfl, hdc, hdl, hdA, hdR⟩ := id hd.ex; obtain ⟨Ah, ch, rfl, hhc, hhl, hhA, hhR⟩ := id hh.ex; obtain ⟨Al, cl, rfl, hlc, hll, hlA, hlR⟩ := LogR.opn hlo
  clear hM
  refine c_seq ?_
  refine c_region ?_
  refine x_boxa rfl (by (conv => lhs; whnf); first | done | rfl) ?_
  intro b2
  refine x_al rfl ?_
  intro b4
  refine w_asg rfl (by (conv => lhs; whnf); first | done | rfl) ?_
  refine w_nil ?_
  refine tq_n ?_
  refine c_seq ?_
  refine c_seq ?_
  refine c_region ?_
  refine x_ldao rfl (by (conv => lhs; whnf); first | done | rfl) (by first | exact HasC.out | exact PutC.out | repeat (first | exact .here | apply Has.there | apply Put.there | apply Has.app | apply Put.app)) rfl ?_
  refine x_callp (by decide) (checkr_g (hT.sub (List.nil_sublist _))) rfl rfl rfl ?_
  refine w_asg rfl (by (conv => lhs; whnf); first | done | rfl) ?_
  refine w_nil ?_
  refine tq_n ?_
  refine c_seq ?_
  refine c_region ?_
  refine w_mov rfl (by (conv => lhs; whnf); first | done | rfl) ?_
  refine w_neq rfl (by (conv => lhs; whnf); first | done | rfl) (by (conv => lhs; whnf); first | done | rfl) ?_
  refine w_nil ?_
  refine tq_n ?_
  refine c_cond_d (by (conv => lhs; whnf); first | done | rfl) (fun hc14 => ?_) (fun hc14 => ?_)
  · have hm : ¬ May t := fun hm => hc14 (if_pos hm)
    refine c_seq ?_
    refine c_region ?_
    refine x_bld rfl .nil rfl ?_
    refine w_mov rfl (by (conv => lhs; whnf); first | done | rfl) ?_
    refine x_stw rfl (by (conv => lhs; whnf); first | done | rfl) (by (conv => lhs; whnf); first | done | rfl) rfl rfl (by first | exact HasC.out | exact PutC.out | repeat (first | exact .here | apply Has.there | apply Put.there | apply Has.app | apply Put.app)) rfl ?_
    refine w_asg rfl (by (conv => lhs; whnf); first | done | rfl) ?_
    refine w_nil ?_
    refine tq_n ?_
    refine c_ret ?_
    refine tq_r ?_
    exact rq_r (ra_c (by (conv => lhs; whnf); first | done | rfl) (by first | exact HasC.out | exact PutC.out | repeat (first | exact .here | apply Has.there | apply Put.there | apply Has.app | apply Put.app)) rfl (ra_t (by (conv => lhs; whnf); first | done | rfl) .nil)) (List.nil_sublist _) (⟨by unfold want; simp only [if_neg hm]; rfl, rfl⟩)
  · have hm : May t := Decidable.byContradiction fun hm => hc14 (by rw [if_neg hm]; decide)
    have hLi := hm.1
    have hP : 4 ≤ t.P := hLi.1.1.1.1
    have hK : 1 ≤ t.K := hLi.1.1.2.2.1
    have hGP := gp_le hLi.1.1
    have hsu : (t.sp = -1 ∧ t.sl = 0 ∧ t.su = 0) ∨ ((0 ≤ t.sp ∧ t.sp ≤ 255) ∧ (0 ≤ t.sl ∧ t.sl ≤ t.G - 1) ∧ 0 ≤ t.su ∧ t.su ≤ t.P) := hLi.2.2
    refine c_skip ?_
    refine tq_n ?_
    refine c_seq ?_
    refine c_seq ?_
    refine c_region ?_
    refine x_ldao rfl (by (conv => lhs; whnf); first | done | rfl) (by first | exact HasC.out | exact PutC.out | repeat (first | exact .here | apply Has.there | apply Put.there | apply Has.app | apply Put.app)) rfl ?_
    refine w_mov rfl (by (conv => lhs; whnf); first | done | rfl) ?_
    refine x_callp (by decide) (therer_g (p := p) (hT.sub (List.nil_sublist _)) hLi) rfl rfl rfl ?_
    refine w_notd rfl (by (conv => lhs; whnf); first | done | rfl) ?_
    refine w_nil ?_
    refine tq_n ?_
    refine c_cond_d (by (conv => lhs; whnf); first | done | rfl) (fun hc20 => ?_) (fun hc20 => ?_)
    · refine c_seq ?_
      refine c_region ?_
      refine x_bld rfl .nil rfl ?_
      refine x_stw rfl (by (conv => lhs; whnf); first | done | rfl) (by (conv => lhs; whnf); first | done | rfl) rfl rfl (by first | exact HasC.out | exact PutC.out | repeat (first | exact .here | apply Has.there | apply Put.there | apply Has.app | apply Put.app)) rfl ?_
      refine w_asg rfl (by (conv => lhs; whnf); first | done | rfl) ?_
      refine w_nil ?_
      refine tq_n ?_
      refine c_ret ?_
      refine tq_r ?_
      exact rq_r (ra_c (by (conv => lhs; whnf); first | done | rfl) (by first | exact HasC.out | exact PutC.out | repeat (first | exact .here | apply Has.there | apply Put.there | apply Has.app | apply Put.app)) rfl (ra_t (by (conv => lhs; whnf); first | done | rfl) .nil)) (List.nil_sublist _) (⟨by unfold want; rw [if_pos hm, if_neg hc20]; rfl, rfl⟩)
    · have hin := Decidable.not_not.1 hc20
      have hw : want t p = (wantQ t p, 0) := ((if_pos hm).trans (if_pos hin)).trans (by rw [wantQ_eq (by omega)])
      rw [hw]
      refine c_skip ?_
      refine tq_n ?_
      refine c_seq ?_
      refine c_draw mixed (by kernel_rfl) ?_
      refine w_mov rfl (by (conv => lhs; whnf); first | done | rfl) ?_
      refine x_fa rfl (by (conv => lhs; whnf); first | done | rfl) ?_
      refine x_ldo rfl (by (conv => lhs; whnf); first | done | rfl) (by first | exact HasC.out | exact PutC.out | repeat (first | exact .here | apply Has.there | apply Put.there | apply Has.app | apply Put.app)) (by (conv => lhs; whnf); first | done | rfl) ?_
      refine w_quo rfl (by (conv => lhs; whnf); first | done | rfl) (by (conv => lhs; whnf); first | done | rfl) (by omega) (by omega) (by omega) ?_
      refine w_mov rfl (by (conv => lhs; whnf); first | done | rfl) ?_
      refine x_fa rfl (by (conv => lhs; whnf); first | done | rfl) ?_
      refine x_ldo rfl (by (conv => lhs; whnf); first | done | rfl) (by first | exact HasC.out | exact PutC.out | repeat (first | exact .here | apply Has.there | apply Put.there | apply Has.app | apply Put.app)) (by (conv => lhs; whnf); first | done | rfl) ?_
      refine w_rem rfl (by (conv => lhs; whnf); first | done | rfl) (by (conv => lhs; whnf); first | done | rfl) (by omega) (by omega) ?_
      refine w_asg rfl (by (conv => lhs; whnf); first | done | rfl) ?_
      refine w_asg rfl (by (conv => lhs; whnf); first | done | rfl) ?_
      refine w_nil ?_
      refine tq_n ?_
      refine c_seq ?_
      refine c_region_j [30, 31, 32, 33, 34, 35, 36, 37, 38, 39, 40, 9] 9 (.bool (decide (0 ≤ t.sp ∧ t.sl = p / t.P))) ?_ (fun g7 => ?_)
      · all_goals (refine x_fa rfl (by (conv => lhs; whnf); first | done | rfl) ?_)
        all_goals (refine x_fa rfl (by (conv => lhs; whnf); first | done | rfl) ?_)
        all_goals (refine x_ldo rfl (by (conv => lhs; whnf); first | done | rfl) (by first | exact HasC.out | exact PutC.out | repeat (first | exact .here | apply Has.there | apply Put.there | apply Has.app | apply Put.app)) (by (conv => lhs; whnf); first | done | rfl) ?_)
        all_goals (refine w_geq rfl (by (conv => lhs; whnf); first | done | rfl) (by (conv => lhs; whnf); first | done | rfl) ?_)
        all_goals (refine w_mov rfl (by (conv => lhs; whnf); first | done | rfl) ?_)
        all_goals (first | refine w_lit true rfl rfl rfl ?_ | refine w_lit false rfl rfl rfl ?_ | refine w_cases_od rfl rfl rfl (fun hg => ?_) (fun hg => ?_) | refine w_cases_o rfl rfl rfl (fun hg => ?_) (fun hg => ?_) | skip)
        all_goals (first | refine w_skip rfl ?_ | (refine x_fa rfl (by (conv => lhs; whnf); first | done | rfl) ?_))
        all_goals (first | refine w_skip rfl ?_ | (refine x_fa rfl (by (conv => lhs; whnf); first | done | rfl) ?_))
        all_goals (first | refine w_skip rfl ?_ | (refine x_ldo rfl (by (conv => lhs; whnf); first | done | rfl) (by first | exact HasC.out | exact PutC.out | repeat (first | exact .here | apply Has.there | apply Put.there | apply Has.app | apply Put.app)) (by (conv => lhs; whnf); first | done | rfl) ?_))
        all_goals (first | refine w_skip rfl ?_ | (refine w_mov rfl (by (conv => lhs; whnf); first | done | rfl) ?_))
        all_goals (first | refine w_skip rfl ?_ | (refine w_eql rfl (by (conv => lhs; whnf); first | done | rfl) (by (conv => lhs; whnf); first | done | rfl) ?_))
        all_goals (first | refine w_pick_t rfl rfl (by (conv => lhs; whnf); first | done | rfl) ?_ | refine w_pick_f rfl rfl (by (conv => lhs; whnf); first | done | rfl) ?_)
        all_goals (refine w_asg rfl (by (conv => lhs; whnf); first | done | rfl) ?_)
        all_goals (refine w_nil ?_)
        all_goals (refine jn (by first | exact (Ag.upd rfl (Ag.upd rfl (Ag.upd rfl (Ag.upd rfl (Ag.upd rfl (Ag.upd rfl (Ag.upd rfl (Ag.upd rfl (Ag.upd rfl (Ag.upd rfl (Ag.upd rfl (Ag.upd rfl Ag.refl)))))))))))) | exact (by first | ((repeat (first | with_reducible exact Ag.refl | with_reducible exact Ag.ov | (with_reducible refine Ag.upd ?_ ?_; exact rfl) | with_reducible refine Ag.putn ?_ | (with_reducible refine Ag.ovs ?_ ?_; exact rfl))); done) | (repeat (first | exact Ag.refl | exact Ag.ov | (refine Ag.upd ?_ ?_; exact rfl) | refine Ag.putn ?_ | (refine Ag.ovs ?_ ?_; exact rfl))))) (by (conv => lhs; whnf); first | done | rfl) ?_)
        all_goals (exact congrArg Value.bool (by first | rfl | (refine decide_eq_decide.2 ?_; omega) | (refine (decide_eq_true ?_).symm; omega) | (refine (decide_eq_false ?_).symm; omega) | simp_all))
      refine tq_n ?_
      refine c_seq ?_
      refine c_seq ?_
      refine c_region_j [41, 42, 43, 44, 45, 46, 47, 48] 48 (.bool (decide ((0 ≤ t.sp ∧ t.sl = p / t.P) ∧ t.su = p % t.P))) ?_ (fun g8 => ?_)
      · all_goals (refine w_mov rfl (by (conv => lhs; whnf); first | done | rfl) ?_)
        all_goals (refine w_mov rfl (by (conv => lhs; whnf); first | done | rfl) ?_)
        all_goals (first | refine w_lit true rfl rfl rfl ?_ | refine w_lit false rfl rfl rfl ?_ | refine w_cases_od rfl rfl rfl (fun hg => ?_) (fun hg => ?_) | refine w_cases_o rfl rfl rfl (fun hg => ?_) (fun hg => ?_) | skip)
        all_goals (first | refine w_skip rfl ?_ | (refine x_fa rfl (by (conv => lhs; whnf); first | done | rfl) ?_))
        all_goals (first | refine w_skip rfl ?_ | (refine x_fa rfl (by (conv => lhs; whnf); first | done | rfl) ?_))
        all_goals (first | refine w_skip rfl ?_ | (refine x_ldo rfl (by (conv => lhs; whnf); first | done | rfl) (by first | exact HasC.out | exact PutC.out | repeat (first | exact .here | apply Has.there | apply Put.there | apply Has.app | apply Put.app)) (by (conv => lhs; whnf); first | done | rfl) ?_))
        all_goals (first | refine w_skip rfl ?_ | (refine w_mov rfl (by (conv => lhs; whnf); first | done | rfl) ?_))
        all_goals (first | refine w_skip rfl ?_ | (refine w_eql rfl (by (conv => lhs; whnf); first | done | rfl) (by (conv => lhs; whnf); first | done | rfl) ?_))
        all_goals (first | refine w_pick_t rfl rfl (by (conv => lhs; whnf); first | done | rfl) ?_ | refine w_pick_f rfl rfl (by (conv => lhs; whnf); first | done | rfl) ?_)
        all_goals (refine w_nil ?_)
        all_goals (refine jn (by first | exact (Ag.upd rfl (Ag.upd rfl (Ag.upd rfl (Ag.upd rfl (Ag.upd rfl (Ag.upd rfl (Ag.upd rfl (Ag.upd rfl Ag.refl)))))))) | exact (by first | ((repeat (first | with_reducible exact Ag.refl | with_reducible exact Ag.ov | (with_reducible refine Ag.upd ?_ ?_; exact rfl) | with_reducible refine Ag.putn ?_ | (with_reducible refine Ag.ovs ?_ ?_; exact rfl))); done) | (repeat (first | exact Ag.refl | exact Ag.ov | (refine Ag.upd ?_ ?_; exact rfl) | refine Ag.putn ?_ | (refine Ag.ovs ?_ ?_; exact rfl))))) (by (conv => lhs; whnf); first | done | rfl) ?_)
        all_goals (exact congrArg Value.bool (by first | exact decide_eq_decide.2 ⟨fun h => ⟨hg, h⟩, fun h => h.2⟩ | exact (decide_eq_false (fun h => hg h.1)).symm))
      refine tq_n ?_
      refine c_cond_d (by (conv => lhs; whnf); first | done | rfl) (fun hc48 => ?_) (fun hc48 => ?_)
      · refine c_seq ?_
        refine c_region ?_
        refine w_mov rfl (by (conv => lhs; whnf); first | done | rfl) ?_
        refine x_bld rfl (.cons (by (conv => lhs; whnf); first | done | rfl) (.cons (by (conv => lhs; whnf); first | done | rfl) .nil)) rfl ?_
        refine x_stw rfl (by (conv => lhs; whnf); first | done | rfl) (by (conv => lhs; whnf); first | done | rfl) rfl rfl (by first | exact HasC.out | exact PutC.out | repeat (first | exact .here | apply Has.there | apply Put.there | apply Has.app | apply Put.app)) rfl ?_
        refine w_asg rfl (by (conv => lhs; whnf); first | done | rfl) ?_
        refine w_nil ?_
        refine tq_n ?_
        refine c_ret ?_
        refine tq_r ?_
        exact rq_r (ra_c (by (conv => lhs; whnf); first | done | rfl) (by first | exact HasC.out | exact PutC.out | repeat (first | exact .here | apply Has.there | apply Put.there | apply Has.app | apply Put.app)) rfl (ra_t (by (conv => lhs; whnf); first | done | rfl) .nil)) (List.nil_sublist _) (⟨by unfold wantQ; rw [if_pos hc48]; rfl, rfl⟩)
      · refine c_skip ?_
        refine tq_n ?_
        refine c_seq ?_
        refine c_seq ?_
        refine c_region ?_
        refine w_mov rfl (by (conv => lhs; whnf); first | done | rfl) ?_
        refine w_eql rfl (by (conv => lhs; whnf); first | done | rfl) (by (conv => lhs; whnf); first | done | rfl) ?_
        refine w_nil ?_
        refine tq_n ?_
        refine c_cond_d (by (conv => lhs; whnf); first | done | rfl) (fun hc52 => ?_) (fun hc52 => ?_)
        · refine c_block ?_
          refine c_seq ?_
          refine c_region ?_
          refine x_fa rfl (by (conv => lhs; whnf); first | done | rfl) ?_
          refine x_fa rfl (by (conv => lhs; whnf); first | done | rfl) ?_
          refine x_ldo rfl (by (conv => lhs; whnf); first | done | rfl) (by first | exact HasC.out | exact PutC.out | repeat (first | exact .here | apply Has.there | apply Put.there | apply Has.app | apply Put.app)) (by (conv => lhs; whnf); first | done | rfl) ?_
          refine w_lss rfl (by (conv => lhs; whnf); first | done | rfl) (by (conv => lhs; whnf); first | done | rfl) ?_
          refine w_asg rfl (by (conv => lhs; whnf); first | done | rfl) ?_
          refine w_nil ?_
          refine tq_n ?_
          refine c_cond_d (by (conv => lhs; whnf); first | done | rfl) (fun hc57 => ?_) (fun hc57 => ?_)
          · refine c_seq ?_
            refine c_region ?_
            refine w_mov rfl (by (conv => lhs; whnf); first | done | rfl) ?_
            refine x_bld rfl (.cons (by (conv => lhs; whnf); first | done | rfl) (.cons (by (conv => lhs; whnf); first | done | rfl) .nil)) rfl ?_
            refine x_stw rfl (by (conv => lhs; whnf); first | done | rfl) (by (conv => lhs; whnf); first | done | rfl) rfl rfl (by first | exact HasC.out | exact PutC.out | repeat (first | exact .here | apply Has.there | apply Put.there | apply Has.app | apply Put.app)) rfl ?_
            refine w_asg rfl (by (conv => lhs; whnf); first | done | rfl) ?_
            refine w_nil ?_
            refine tq_n ?_
            refine c_ret ?_
            refine bq_r ?_
            refine tq_r ?_
            exact rq_r (ra_c (by (conv => lhs; whnf); first | done | rfl) (by first | exact HasC.out | exact PutC.out | repeat (first | exact .here | apply Has.there | apply Put.there | apply Has.app | apply Put.app)) rfl (ra_t (by (conv => lhs; whnf); first | done | rfl) .nil)) (List.nil_sublist _) (⟨by unfold wantQ; rw [if_neg hc48, if_pos hc52, if_pos hc57]; rfl, rfl⟩)
          · refine c_seq ?_
            refine c_region ?_
            refine x_ldao rfl (by (conv => lhs; whnf); first | done | rfl) (by first | exact HasC.out | exact PutC.out | repeat (first | exact .here | apply Has.there | apply Put.there | apply Has.app | apply Put.app)) rfl ?_
            refine x_callp (by decide) (overr_g (hT.sub (List.nil_sublist _)) hLi) rfl rfl rfl ?_
            refine w_asg rfl (by (conv => lhs; whnf); first | done | rfl) ?_
            refine w_nil ?_
            refine tq_n ?_
            refine c_cond_d (by (conv => lhs; whnf); first | done | rfl) (fun hc64 => ?_) (fun hc64 => ?_)
            · refine c_seq ?_
              refine c_region ?_
              refine x_fa rfl (by (conv => lhs; whnf); first | done | rfl) ?_
              refine x_fa rfl (by (conv => lhs; whnf); first | done | rfl) ?_
              refine x_ldo rfl (by (conv => lhs; whnf); first | done | rfl) (by first | exact HasC.out | exact PutC.out | repeat (first | exact .here | apply Has.there | apply Put.there | apply Has.app | apply Put.app)) (by (conv => lhs; whnf); first | done | rfl) ?_
              refine x_bld rfl (.cons (by (conv => lhs; whnf); first | done | rfl) (.cons (by (conv => lhs; whnf); first | done | rfl) .nil)) rfl ?_
              refine x_stw rfl (by (conv => lhs; whnf); first | done | rfl) (by (conv => lhs; whnf); first | done | rfl) rfl rfl (by first | exact HasC.out | exact PutC.out | repeat (first | exact .here | apply Has.there | apply Put.there | apply Has.app | apply Put.app)) rfl ?_
              refine w_asg rfl (by (conv => lhs; whnf); first | done | rfl) ?_
              refine w_nil ?_
              refine tq_n ?_
              refine c_ret ?_
              refine bq_r ?_
              refine tq_r ?_
              exact rq_r (ra_c (by (conv => lhs; whnf); first | done | rfl) (by first | exact HasC.out | exact PutC.out | repeat (first | exact .here | apply Has.there | apply Put.there | apply Has.app | apply Put.app)) rfl (ra_t (by (conv => lhs; whnf); first | done | rfl) .nil)) (List.nil_sublist _) (⟨by unfold wantQ; rw [if_neg hc48, if_pos hc52, if_neg hc57, if_pos hc64]; rfl, rfl⟩)
            · refine c_seq ?_
              refine c_region ?_
              refine x_fa rfl (by (conv => lhs; whnf); first | done | rfl) ?_
              refine x_fa rfl (by (conv => lhs; whnf); first | done | rfl) ?_
              refine x_ldo rfl (by (conv => lhs; whnf); first | done | rfl) (by first | exact HasC.out | exact PutC.out | repeat (first | exact .here | apply Has.there | apply Put.there | apply Has.app | apply Put.app)) (by (conv => lhs; whnf); first | done | rfl) ?_
              refine x_fa rfl (by (conv => lhs; whnf); first | done | rfl) ?_
              refine x_ldo rfl (by (conv => lhs; whnf); first | done | rfl) (by first | exact HasC.out | exact PutC.out | repeat (first | exact .here | apply Has.there | apply Put.there | apply Has.app | apply Put.app)) (by (conv => lhs; whnf); first | done | rfl) ?_
              refine w_eql rfl (by (conv => lhs; whnf); first | done | rfl) (by (conv => lhs; whnf); first | done | rfl) ?_
              refine w_asg rfl (by (conv => lhs; whnf); first | done | rfl) ?_
              refine w_nil ?_
              refine tq_n ?_
              refine c_cond_d (by (conv => lhs; whnf); first | done | rfl) (fun hc71 => ?_) (fun hc71 => ?_)
              · refine c_seq ?_
                refine c_region ?_
                refine x_fa rfl (by (conv => lhs; whnf); first | done | rfl) ?_
                refine x_fa rfl (by (conv => lhs; whnf); first | done | rfl) ?_
                refine x_ldo rfl (by (conv => lhs; whnf); first | done | rfl) (by first | exact HasC.out | exact PutC.out | repeat (first | exact .here | apply Has.there | apply Put.there | apply Has.app | apply Put.app)) (by (conv => lhs; whnf); first | done | rfl) ?_
                refine x_bld rfl (.cons (by (conv => lhs; whnf); first | done | rfl) (.cons (by (conv => lhs; whnf); first | done | rfl) .nil)) rfl ?_
                refine x_stw rfl (by (conv => lhs; whnf); first | done | rfl) (by (conv => lhs; whnf); first | done | rfl) rfl rfl (by first | exact HasC.out | exact PutC.out | repeat (first | exact .here | apply Has.there | apply Put.there | apply Has.app | apply Put.app)) rfl ?_
                refine w_asg rfl (by (conv => lhs; whnf); first | done | rfl) ?_
                refine w_nil ?_
                refine tq_n ?_
                refine c_ret ?_
                refine bq_r ?_
                refine tq_r ?_
                exact rq_r (ra_c (by (conv => lhs; whnf); first | done | rfl) (by first | exact HasC.out | exact PutC.out | repeat (first | exact .here | apply Has.there | apply Put.there | apply Has.app | apply Put.app)) rfl (ra_t (by (conv => lhs; whnf); first | done | rfl) .nil)) (List.nil_sublist _) (⟨by unfold wantQ; rw [if_neg hc48, if_pos hc52, if_neg hc57, if_neg hc64, if_pos hc71]; rfl, rfl⟩)
              · refine c_seq ?_
                refine c_region ?_
                refine x_fa rfl (by (conv => lhs; whnf); first | done | rfl) ?_
                refine x_fa rfl (by (conv => lhs; whnf); first | done | rfl) ?_
                refine x_ldo rfl (by (conv => lhs; whnf); first | done | rfl) (by first | exact HasC.out | exact PutC.out | repeat (first | exact .here | apply Has.there | apply Put.there | apply Has.app | apply Put.app)) (by (conv => lhs; whnf); first | done | rfl) ?_
                refine x_bld rfl (.cons (by (conv => lhs; whnf); first | done | rfl) (.cons (by (conv => lhs; whnf); first | done | rfl) .nil)) rfl ?_
                refine x_stw rfl (by (conv => lhs; whnf); first | done | rfl) (by (conv => lhs; whnf); first | done | rfl) rfl rfl (by first | exact HasC.out | exact PutC.out | repeat (first | exact .here | apply Has.there | apply Put.there | apply Has.app | apply Put.app)) rfl ?_
                refine w_asg rfl (by (conv => lhs; whnf); first | done | rfl) ?_
                refine w_nil ?_
                refine tq_n ?_
                refine c_ret ?_
                refine bq_r ?_
                refine tq_r ?_
                exact rq_r (ra_c (by (conv => lhs; whnf); first | done | rfl) (by first | exact HasC.out | exact PutC.out | repeat (first | exact .here | apply Has.there | apply Put.there | apply Has.app | apply Put.app)) rfl (ra_t (by (conv => lhs; whnf); first | done | rfl) .nil)) (List.nil_sublist _) (⟨by unfold wantQ; rw [if_neg hc48, if_pos hc52, if_neg hc57, if_neg hc64, if_neg hc71]; rfl, rfl⟩)
        · refine c_skip ?_
          refine tq_n ?_
          refine c_seq ?_
          refine c_seq ?_
          refine c_region ?_
          refine x_ldao rfl (by (conv => lhs; whnf); first | done | rfl) (by first | exact HasC.out | exact PutC.out | repeat (first | exact .here | apply Has.there | apply Put.there | apply Has.app | apply Put.app)) rfl ?_
          refine x_callp (by decide) (roomr_g (hT.sub (List.nil_sublist _))) rfl rfl rfl ?_
          refine w_nil ?_
          refine tq_n ?_
          refine c_cond_d (by (conv => lhs; whnf); first | done | rfl) (fun hc83 => ?_) (fun hc83 => ?_)
          · refine c_seq ?_
            refine c_region ?_
            refine x_bld rfl (.cons (by (conv => lhs; whnf); first | done | rfl) .nil) rfl ?_
            refine x_stw rfl (by (conv => lhs; whnf); first | done | rfl) (by (conv => lhs; whnf); first | done | rfl) rfl rfl (by first | exact HasC.out | exact PutC.out | repeat (first | exact .here | apply Has.there | apply Put.there | apply Has.app | apply Put.app)) rfl ?_
            refine w_asg rfl (by (conv => lhs; whnf); first | done | rfl) ?_
            refine w_nil ?_
            refine tq_n ?_
            refine c_ret ?_
            refine tq_r ?_
            exact rq_r (ra_c (by (conv => lhs; whnf); first | done | rfl) (by first | exact HasC.out | exact PutC.out | repeat (first | exact .here | apply Has.there | apply Put.there | apply Has.app | apply Put.app)) rfl (ra_t (by (conv => lhs; whnf); first | done | rfl) .nil)) (List.nil_sublist _) (⟨by unfold wantQ wantR; rw [if_neg hc48, if_neg hc52, if_pos hc83]; rfl, rfl⟩)
          · refine c_skip ?_
            refine tq_n ?_
            refine c_seq ?_
            refine c_seq ?_
            refine c_region ?_
            refine x_fa rfl (by (conv => lhs; whnf); first | done | rfl) ?_
            refine x_ldo rfl (by (conv => lhs; whnf); first | done | rfl) (by first | exact HasC.out | exact PutC.out | repeat (first | exact .here | apply Has.there | apply Put.there | apply Has.app | apply Put.app)) (by (conv => lhs; whnf); first | done | rfl) ?_
            refine x_len rfl (by (conv => lhs; whnf); first | done | rfl) ?_
            refine x_fa rfl (by (conv => lhs; whnf); first | done | rfl) ?_
            refine x_ldo rfl (by (conv => lhs; whnf); first | done | rfl) (by first | exact HasC.out | exact PutC.out | repeat (first | exact .here | apply Has.there | apply Put.there | apply Has.app | apply Put.app)) (by (conv => lhs; whnf); first | done | rfl) ?_
            refine w_lss rfl (by (conv => lhs; whnf); first | done | rfl) (by (conv => lhs; whnf); first | done | rfl) ?_
            refine w_nil ?_
            refine tq_n ?_
            refine c_cond_d (by (conv => lhs; whnf); first | done | rfl) (fun hc90 => ?_) (fun hc90 => ?_)
            · refine c_seq ?_
              refine c_region ?_
              refine x_bld rfl (.cons (by (conv => lhs; whnf); first | done | rfl) .nil) rfl ?_
              refine x_stw rfl (by (conv => lhs; whnf); first | done | rfl) (by (conv => lhs; whnf); first | done | rfl) rfl rfl (by first | exact HasC.out | exact PutC.out | repeat (first | exact .here | apply Has.there | apply Put.there | apply Has.app | apply Put.app)) rfl ?_
              refine w_asg rfl (by (conv => lhs; whnf); first | done | rfl) ?_
              refine w_nil ?_
              refine tq_n ?_
              refine c_ret ?_
              refine tq_r ?_
              exact rq_r (ra_c (by (conv => lhs; whnf); first | done | rfl) (by first | exact HasC.out | exact PutC.out | repeat (first | exact .here | apply Has.there | apply Put.there | apply Has.app | apply Put.app)) rfl (ra_t (by (conv => lhs; whnf); first | done | rfl) .nil)) (List.nil_sublist _) (⟨by unfold wantQ wantR; rw [if_neg hc48, if_neg hc52, if_neg hc83, if_pos hc90]; rfl, rfl⟩)
            · have hlt : 0 < t.lo.length := by omega
              obtain ⟨Ap, cp, hpc, hpl, hpA, hpR, hpI, hph, hpv⟩ := hlR 0 _ (getN hlt)
              refine c_skip ?_
              refine tq_n ?_
              refine c_seq ?_
              refine c_seq ?_
              refine c_region ?_
              refine w_asg rfl (by (conv => lhs; whnf); first | done | rfl) ?_
              refine w_nil ?_
              refine tq_n ?_
              refine c_block ?_
              refine c_loop_ov [92, 93, 94, 95, 96, 97, 98, 99, 102, 103, 104, 105, 106, 107, 108, 109, 110, 111, 112, 113, 114, 115, 116, 117, 118, 119, 120, 121, 122, 5, 100, 101, 10] (fun m s L => ∃ (j : Nat), j ≤ (t.lo[0]'hlt).pg.length ∧ fnn (t.lo[0]'hlt).pg = fnn ((t.lo[0]'hlt).pg.drop j) ∧ m = (t.lo[0]'hlt).pg.length - j ∧ s = [(10, .int .i64 j)] ∧ L = [(b4, B 45 [.int .i64 0, .int .i64 0]), (b2, B 43 (cT t Ad cd Ah ch Al cl))]) ((t.lo[0]'hlt).pg.length) [(10, .int .i64 (0 : Nat))] (by repeat (first | exact .nil | refine .cons rfl ?_)) (by first | exact SubL.out | repeat (first | exact List.Sublist.refl _ | exact List.nil_sublist _ | refine .cons_cons _ ?_ | refine .cons _ ?_ | refine List.Sublist.append (List.Sublist.refl _) ?_ | exact List.sublist_append_left _ _ | refine List.Sublist.trans ?_ (List.sublist_append_right _ _))) (⟨0, by omega, rfl, by omega, rfl, rfl⟩) ?_
              rintro mI sI LI gL0 ⟨j, hj, hv, rfl, rfl, rfl⟩
              refine c_seq ?_
              refine c_seq ?_
              refine c_region ?_
              refine w_mov rfl (by (conv => lhs; whnf); first | done | rfl) ?_
              refine x_fa rfl (by (conv => lhs; whnf); first | done | rfl) ?_
              refine x_ldo rfl (by (conv => lhs; whnf); first | done | rfl) (by first | exact HasC.out | exact PutC.out | repeat (first | exact .here | apply Has.there | apply Put.there | apply Has.app | apply Put.app)) (by (conv => lhs; whnf); first | done | rfl) ?_
              refine x_ixA rfl (by (conv => lhs; whnf); first | done | rfl) (by (conv => lhs; whnf); first | done | rfl) (hlA (ne_of_lt hlt)) (by omega) (by omega) ?_
              refine x_fa rfl (by (conv => lhs; whnf); first | done | rfl) ?_
              refine x_ld rfl (by (conv => lhs; whnf); first | done | rfl) (hpv.sub (List.nil_sublist _)) ?_
              refine x_len rfl (by (conv => lhs; whnf); first | done | rfl) ?_
              refine w_lss rfl (by (conv => lhs; whnf); first | done | rfl) (by (conv => lhs; whnf); first | done | rfl) ?_
              refine w_nil ?_
              refine tq_n ?_
              refine c_cond_d (by (conv => lhs; whnf); first | done | rfl) (fun hc99 => ?_) (fun hc99 => ?_)
              · have hjlt : j < (t.lo[0]'hlt).pg.length := by omega
                have hpb := pg_bd hLi hlt hjlt
                refine c_skip ?_
                refine tq_n ?_
                refine c_seq ?_
                refine c_block ?_
                refine c_seq ?_
                refine c_region ?_
                refine x_fa rfl (by (conv => lhs; whnf); first | done | rfl) ?_
                refine x_ldo rfl (by (conv => lhs; whnf); first | done | rfl) (by first | exact HasC.out | exact PutC.out | repeat (first | exact .here | apply Has.there | apply Put.there | apply Has.app | apply Put.app)) (by (conv => lhs; whnf); first | done | rfl) ?_
                refine x_ixA rfl (by (conv => lhs; whnf); first | done | rfl) (by (conv => lhs; whnf); first | done | rfl) (hlA (ne_of_lt hlt)) (by omega) (by omega) ?_
                refine x_fa rfl (by (conv => lhs; whnf); first | done | rfl) ?_
                refine x_ld rfl (by (conv => lhs; whnf); first | done | rfl) (hpv.sub (List.nil_sublist _)) ?_
                refine w_mov rfl (by (conv => lhs; whnf); first | done | rfl) ?_
                refine x_ixA rfl (by (conv => lhs; whnf); first | done | rfl) (by (conv => lhs; whnf); first | done | rfl) (hpA (ne_of_lt hjlt)) (by omega) (by omega) ?_
                refine x_ld rfl (by (conv => lhs; whnf); first | done | rfl) (rdI (j := (j : Int)) hpR (getN hjlt)) ?_
                refine w_geq rfl (by (conv => lhs; whnf); first | done | rfl) (by (conv => lhs; whnf); first | done | rfl) ?_
                refine w_nil ?_
                refine tq_n ?_
                refine c_cond_d (by (conv => lhs; whnf); first | done | rfl) (fun hc110 => ?_) (fun hc110 => ?_)
                · refine c_seq ?_
                  refine d_begin_s ((show List.Sublist [(b2, B 43 (cT t Ad cd Ah ch Al cl))] _ from (by first | exact SubL.out | repeat (first | exact List.Sublist.refl _ | exact List.nil_sublist _ | refine .cons_cons _ ?_ | refine .cons _ ?_ | refine List.Sublist.append (List.Sublist.refl _) ?_ | exact List.sublist_append_left _ _ | refine List.Sublist.trans ?_ (List.sublist_append_right _ _))))) [] mixed ?_
                  refine d_tk0 0 (np_then (np_blk (np_then (np_then (np_blk (np_then np_ret)))))) rfl (by kernel_rfl) (by kernel_rfl) (by kernel_rfl) (by kernel_rfl) (.inl (by first | exact SubL.out | repeat (first | exact List.Sublist.refl _ | exact List.nil_sublist _ | refine .cons_cons _ ?_ | refine .cons _ ?_ | refine List.Sublist.append (List.Sublist.refl _) ?_ | exact List.sublist_append_left _ _ | refine List.Sublist.trans ?_ (List.sublist_append_right _ _)))) ?_
                  refine x_fa rfl (by (conv => lhs; whnf); first | done | rfl) ?_
                  refine w_nil ⟨rfl, rfl, ?_⟩
                  refine d_tk 1 (np_then (np_blk (np_then (np_then (np_blk (np_then np_ret)))))) rfl (by kernel_rfl) (by kernel_rfl) (by kernel_rfl) (by kernel_rfl) (by kernel_rfl) (by first | exact SubL.out | repeat (first | exact List.Sublist.refl _ | exact List.nil_sublist _ | refine .cons_cons _ ?_ | refine .cons _ ?_ | refine List.Sublist.append (List.Sublist.refl _) ?_ | exact List.sublist_append_left _ _ | refine List.Sublist.trans ?_ (List.sublist_append_right _ _))) ?_
                  refine x_ldo rfl (by (conv => lhs; whnf); first | done | rfl) (by first | exact HasC.out | exact PutC.out | repeat (first | exact .here | apply Has.there | apply Put.there | apply Has.app | apply Put.app)) (by (conv => lhs; whnf); first | done | rfl) ?_
                  refine w_nil ⟨rfl, rfl, ?_⟩
                  refine d_tk0 2 (np_then (np_blk (np_then (np_then (np_blk (np_then np_ret)))))) rfl (by kernel_rfl) (by kernel_rfl) (by kernel_rfl) (by kernel_rfl) (.inl (by first | exact SubL.out | repeat (first | exact List.Sublist.refl _ | exact List.nil_sublist _ | refine .cons_cons _ ?_ | refine .cons _ ?_ | refine List.Sublist.append (List.Sublist.refl _) ?_ | exact List.sublist_append_left _ _ | refine List.Sublist.trans ?_ (List.sublist_append_right _ _)))) ?_
                  refine x_ixA rfl (by (conv => lhs; whnf); first | done | rfl) (by (conv => lhs; whnf); first | done | rfl) (hlA (ne_of_lt hlt)) (by omega) (by omega) ?_
                  refine w_nil ⟨rfl, rfl, ?_⟩
                  refine d_tk0 3 (np_then (np_blk (np_then (np_then (np_blk (np_then np_ret)))))) rfl (by kernel_rfl) (by kernel_rfl) (by kernel_rfl) (by kernel_rfl) (.inl (by first | exact SubL.out | repeat (first | exact List.Sublist.refl _ | exact List.nil_sublist _ | refine .cons_cons _ ?_ | refine .cons _ ?_ | refine List.Sublist.append (List.Sublist.refl _) ?_ | exact List.sublist_append_left _ _ | refine List.Sublist.trans ?_ (List.sublist_append_right _ _)))) ?_
                  refine x_fa rfl (by (conv => lhs; whnf); first | done | rfl) ?_
                  refine w_nil ⟨rfl, rfl, ?_⟩
                  refine d_tk 4 (np_then (np_blk (np_then (np_then (np_blk (np_then np_ret)))))) rfl (by kernel_rfl) (by kernel_rfl) (by kernel_rfl) (by kernel_rfl) (by kernel_rfl) (by first | exact SubL.out | repeat (first | exact List.Sublist.refl _ | exact List.nil_sublist _ | refine .cons_cons _ ?_ | refine .cons _ ?_ | refine List.Sublist.append (List.Sublist.refl _) ?_ | exact List.sublist_append_left _ _ | refine List.Sublist.trans ?_ (List.sublist_append_right _ _))) ?_
                  refine x_ld rfl (by (conv => lhs; whnf); first | done | rfl) (hpv.sub (List.nil_sublist _)) ?_
                  refine w_nil ⟨rfl, rfl, ?_⟩
                  refine d_tk0 5 (np_then (np_blk (np_then (np_then (np_blk (np_then np_ret)))))) rfl (by kernel_rfl) (by kernel_rfl) (by kernel_rfl) (by kernel_rfl) (.inl (by first | exact SubL.out | repeat (first | exact List.Sublist.refl _ | exact List.nil_sublist _ | refine .cons_cons _ ?_ | refine .cons _ ?_ | refine List.Sublist.append (List.Sublist.refl _) ?_ | exact List.sublist_append_left _ _ | refine List.Sublist.trans ?_ (List.sublist_append_right _ _)))) ?_
                  refine w_mov rfl (by (conv => lhs; whnf); first | done | rfl) ?_
                  refine w_nil ⟨rfl, rfl, ?_⟩
                  refine d_tk0 6 (np_then (np_blk (np_then (np_then (np_blk (np_then np_ret)))))) rfl (by kernel_rfl) (by kernel_rfl) (by kernel_rfl) (by kernel_rfl) (.inl (by first | exact SubL.out | repeat (first | exact List.Sublist.refl _ | exact List.nil_sublist _ | refine .cons_cons _ ?_ | refine .cons _ ?_ | refine List.Sublist.append (List.Sublist.refl _) ?_ | exact List.sublist_append_left _ _ | refine List.Sublist.trans ?_ (List.sublist_append_right _ _)))) ?_
                  refine x_ixA rfl (by (conv => lhs; whnf); first | done | rfl) (by (conv => lhs; whnf); first | done | rfl) (hpA (ne_of_lt hjlt)) (by omega) (by omega) ?_
                  refine w_nil ⟨rfl, rfl, ?_⟩
                  refine d_tk 7 (np_then (np_blk (np_then (np_then (np_blk (np_then np_ret)))))) rfl (by kernel_rfl) (by kernel_rfl) (by kernel_rfl) (by kernel_rfl) (by kernel_rfl) (by first | exact SubL.out | repeat (first | exact List.Sublist.refl _ | exact List.nil_sublist _ | refine .cons_cons _ ?_ | refine .cons _ ?_ | refine List.Sublist.append (List.Sublist.refl _) ?_ | exact List.sublist_append_left _ _ | refine List.Sublist.trans ?_ (List.sublist_append_right _ _))) ?_
                  refine x_ld rfl (by (conv => lhs; whnf); first | done | rfl) (rdI (j := (j : Int)) hpR (getN hjlt)) ?_
                  refine w_nil ⟨rfl, rfl, ?_⟩
                  refine d_tk0 8 (np_then (np_blk (np_then (np_then (np_blk (np_then np_ret)))))) rfl (by kernel_rfl) (by kernel_rfl) (by kernel_rfl) (by kernel_rfl) (.inl (by first | exact SubL.out | repeat (first | exact List.Sublist.refl _ | exact List.nil_sublist _ | refine .cons_cons _ ?_ | refine .cons _ ?_ | refine List.Sublist.append (List.Sublist.refl _) ?_ | exact List.sublist_append_left _ _ | refine List.Sublist.trans ?_ (List.sublist_append_right _ _)))) ?_
                  refine x_fa rfl (by (conv => lhs; whnf); first | done | rfl) ?_
                  refine w_nil ⟨rfl, rfl, ?_⟩
                  refine d_tk 9 (np_then (np_blk (np_then (np_then (np_blk (np_then np_ret)))))) rfl (by kernel_rfl) (by kernel_rfl) (by kernel_rfl) (by kernel_rfl) (by kernel_rfl) (by first | exact SubL.out | repeat (first | exact List.Sublist.refl _ | exact List.nil_sublist _ | refine .cons_cons _ ?_ | refine .cons _ ?_ | refine List.Sublist.append (List.Sublist.refl _) ?_ | exact List.sublist_append_left _ _ | refine List.Sublist.trans ?_ (List.sublist_append_right _ _))) ?_
                  refine x_ldo rfl (by (conv => lhs; whnf); first | done | rfl) (by first | exact HasC.out | exact PutC.out | repeat (first | exact .here | apply Has.there | apply Put.there | apply Has.app | apply Put.app)) (by (conv => lhs; whnf); first | done | rfl) ?_
                  refine w_nil ⟨rfl, rfl, ?_⟩
                  refine d_tk0 10 (np_then (np_blk (np_then (np_then (np_blk (np_then np_ret)))))) rfl (by kernel_rfl) (by kernel_rfl) (by kernel_rfl) (by kernel_rfl) (.inl (by first | exact SubL.out | repeat (first | exact List.Sublist.refl _ | exact List.nil_sublist _ | refine .cons_cons _ ?_ | refine .cons _ ?_ | refine List.Sublist.append (List.Sublist.refl _) ?_ | exact List.sublist_append_left _ _ | refine List.Sublist.trans ?_ (List.sublist_append_right _ _)))) ?_
                  refine w_quo rfl (by (conv => lhs; whnf); first | done | rfl) (by (conv => lhs; whnf); first | done | rfl) (by omega) (by omega) (by omega) ?_
                  refine w_nil ⟨rfl, rfl, ?_⟩
                  refine d_tk0 11 (np_then (np_blk (np_then (np_then (np_blk (np_then np_ret)))))) rfl (by kernel_rfl) (by kernel_rfl) (by kernel_rfl) (by kernel_rfl) (.inl (by first | exact SubL.out | repeat (first | exact List.Sublist.refl _ | exact List.nil_sublist _ | refine .cons_cons _ ?_ | refine .cons _ ?_ | refine List.Sublist.append (List.Sublist.refl _) ?_ | exact List.sublist_append_left _ _ | refine List.Sublist.trans ?_ (List.sublist_append_right _ _)))) ?_
                  refine x_bld rfl (.cons (by (conv => lhs; whnf); first | done | rfl) (.cons (by (conv => lhs; whnf); first | done | rfl) .nil)) rfl ?_
                  refine w_nil ⟨rfl, rfl, ?_⟩
                  refine d_one 12 rfl (by kernel_rfl) ?_
                  refine x_stw rfl (by (conv => lhs; whnf); first | done | rfl) (by (conv => lhs; whnf); first | done | rfl) rfl rfl (by first | exact HasC.out | exact PutC.out | repeat (first | exact .here | apply Has.there | apply Put.there | apply Has.app | apply Put.app)) rfl ?_
                  refine w_nil ⟨rfl, (.inl (by first | exact SubL.out | repeat (first | exact List.Sublist.refl _ | exact List.nil_sublist _ | refine .cons_cons _ ?_ | refine .cons _ ?_ | refine List.Sublist.append (List.Sublist.refl _) ?_ | exact List.sublist_append_left _ _ | refine List.Sublist.trans ?_ (List.sublist_append_right _ _)))), ?_⟩
                  refine d_tk0 13 (np_then (np_blk (np_then (np_then (np_blk (np_then np_ret)))))) rfl (by kernel_rfl) (by kernel_rfl) (by kernel_rfl) (by kernel_rfl) (.inl (by first | exact SubL.out | repeat (first | exact List.Sublist.refl _ | exact List.nil_sublist _ | refine .cons_cons _ ?_ | refine .cons _ ?_ | refine List.Sublist.append (List.Sublist.refl _) ?_ | exact List.sublist_append_left _ _ | refine List.Sublist.trans ?_ (List.sublist_append_right _ _)))) ?_
                  refine w_asg rfl (by (conv => lhs; whnf); first | done | rfl) ?_
                  refine w_nil ⟨rfl, rfl, ?_⟩
                  refine d_done (by kernel_rfl) ?_
                  refine tq_n ?_
                  refine c_ret ?_
                  refine bq_r ?_
                  refine tq_r ?_
                  refine tq_r ?_
                  refine bq_r ?_
                  refine tq_r ?_
                  exact rq_r (ra_c (by (conv => lhs; whnf); first | done | rfl) (by first | exact HasC.out | exact PutC.out | repeat (first | exact .here | apply Has.there | apply Put.there | apply Has.app | apply Put.app)) rfl (ra_t (by (conv => lhs; whnf); first | done | rfl) .nil)) (List.nil_sublist _) (⟨by unfold wantQ wantR; rw [if_neg hc48, if_neg hc52, if_neg hc83, if_neg hc90, headD_of hlt, fnn_hit hjlt hv hc110]; rfl, rfl⟩)
                · refine c_skip ?_
                  refine bq_n ?_
                  refine tq_n ?_
                  refine c_region ?_
                  refine w_mov rfl (by (conv => lhs; whnf); first | done | rfl) ?_
                  refine w_add rfl (by (conv => lhs; whnf); first | done | rfl) (by (conv => lhs; whnf); first | done | rfl) (by omega) ?_
                  refine w_asg rfl (by (conv => lhs; whnf); first | done | rfl) ?_
                  refine w_nil ?_
                  refine tq_n ?_
                  exact ⟨(by first | ((repeat (first | with_reducible exact Ag.refl | with_reducible exact Ag.ov | (with_reducible refine Ag.upd ?_ ?_; exact rfl) | with_reducible refine Ag.putn ?_ | (with_reducible refine Ag.ovs ?_ ?_; exact rfl))); done) | (repeat (first | exact Ag.refl | exact Ag.ov | (refine Ag.upd ?_ ?_; exact rfl) | refine Ag.putn ?_ | (refine Ag.ovs ?_ ?_; exact rfl)))), (t.lo[0]'hlt).pg.length - (j + 1), [(10, .int .i64 ((j + 1 : Nat) : Int))], _, by omega, (by first | exact SubL.out | repeat (first | exact List.Sublist.refl _ | exact List.nil_sublist _ | refine .cons_cons _ ?_ | refine .cons _ ?_ | refine List.Sublist.append (List.Sublist.refl _) ?_ | exact List.sublist_append_left _ _ | refine List.Sublist.trans ?_ (List.sublist_append_right _ _))), (by repeat (first | exact .nil | refine .cons rfl ?_)), ⟨j + 1, by omega, fnn_next hjlt hv hc110, rfl, rfl, rfl⟩⟩
              · refine c_exit ?_
                refine tq_e ?_
                refine tq_e ?_
                refine bq_e ?_
                refine tq_n ?_
                refine c_seq ?_
                refine c_region ?_
                refine x_bld rfl (.cons (by (conv => lhs; whnf); first | done | rfl) .nil) rfl ?_
                refine x_stw rfl (by (conv => lhs; whnf); first | done | rfl) (by (conv => lhs; whnf); first | done | rfl) rfl rfl (by first | exact HasC.out | exact PutC.out | repeat (first | exact .here | apply Has.there | apply Put.there | apply Has.app | apply Put.app)) rfl ?_
                refine w_asg rfl (by (conv => lhs; whnf); first | done | rfl) ?_
                refine w_nil ?_
                refine tq_n ?_
                refine c_ret ?_
                exact rq_r (ra_c (by (conv => lhs; whnf); first | done | rfl) (by first | exact HasC.out | exact PutC.out | repeat (first | exact .here | apply Has.there | apply Put.there | apply Has.app | apply Put.app)) rfl (ra_t (by (conv => lhs; whnf); first | done | rfl) .nil)) (List.nil_sublist _) (⟨by unfold wantQ wantR; rw [if_neg hc48, if_neg hc52, if_neg hc83, if_neg hc90, headD_of hlt, fnn_end (by omega) hv]; rfl, rfl⟩)
theorem freshr_g {v : Value} {t : Tb} {x : Int} (h : TabR w0 L v t) (hm : May t) : Gives Try.prog w0 L 60 [v, .int .i64 x] (fun v' L' => v' = .bool (decide (frsh t x)) ∧ L' = L) := by
  refine enterP Try.func60 rfl Try.ntmps60 Try.results60 (Nat.le_of_ble_eq_true rfl) fun w hM => ?_
  have hT := h.at hM
  obtain ⟨vd, vh, vl, rfl, hd, hh, hlo⟩ := ((h).at hM).ex; obtain ⟨Ad, cd, rfl, hdc, hdl, hdA, hdR⟩ := id hd.ex; obtain ⟨Ah, ch, rfl, hhc, hhl, hhA, hhR⟩ := id hh.ex; obtain ⟨Al, cl, rfl, hlc, hll, hlA, hlR⟩ := LogR.opn hlo
  clear hM
  have hLi := hm.1
  have hGP := gp_le hLi.1.1
  have hG := hLi.1.2.1
  have hK := hLi.1.2.2.2
  have hK2 := hLi.1.1.2.2.2
  have hG2 := hLi.1.1.2.1.2
  have hul : (lst t).length ≤ 1152921504606846976 := by rw [lst_perm.length_eq]; unfold usedL; have := nn_len (t.sp :: t.da); simp only [List.length_append, List.length_map, List.length_cons] at *; omega
  refine c_seq ?_
  refine c_region ?_
  refine x_boxa rfl (by (conv => lhs; whnf); first | done | rfl) ?_
  intro b2
  refine w_asg rfl (by (conv => lhs; whnf); first | done | rfl) ?_
  refine w_nil ?_
  refine tq_n ?_
  refine c_seq ?_
  refine c_region_js [5, 6, 7, 8, 9, 10, 11, 12, 13, 14, 15, 16, 17, 4] 4 (.bool (decide (frsh t x))) ?_ (fun g1 => ?_)
  · all_goals (refine w_mov rfl (by (conv => lhs; whnf); first | done | rfl) ?_)
    all_goals (refine w_geq rfl (by (conv => lhs; whnf); first | done | rfl) (by (conv => lhs; whnf); first | done | rfl) ?_)
    all_goals (refine w_mov rfl (by (conv => lhs; whnf); first | done | rfl) ?_)
    all_goals (first | refine w_lit true rfl rfl rfl ?_ | refine w_lit false rfl rfl rfl ?_ | refine w_cases_od rfl rfl rfl (fun hg => ?_) (fun hg => ?_) | refine w_cases_o rfl rfl rfl (fun hg => ?_) (fun hg => ?_) | skip)
    all_goals (first | refine w_skip rfl ?_ | (refine w_mov rfl (by (conv => lhs; whnf); first | done | rfl) ?_))
    all_goals (first | refine w_skip rfl ?_ | (refine w_lss rfl (by (conv => lhs; whnf); first | done | rfl) (by (conv => lhs; whnf); first | done | rfl) ?_))
    all_goals (first | refine w_pick_t rfl rfl (by (conv => lhs; whnf); first | done | rfl) ?_ | refine w_pick_f rfl rfl (by (conv => lhs; whnf); first | done | rfl) ?_)
    all_goals (refine w_mov rfl (by (conv => lhs; whnf); first | done | rfl) ?_)
    all_goals (first | refine w_lit true rfl rfl rfl ?_ | refine w_lit false rfl rfl rfl ?_ | refine w_cases_od rfl rfl rfl (fun hg => ?_) (fun hg => ?_) | refine w_cases_o rfl rfl rfl (fun hg => ?_) (fun hg => ?_) | skip)
    all_goals (first | refine w_skip rfl ?_ | (refine x_ldao rfl (by (conv => lhs; whnf); first | done | rfl) (by first | exact HasC.out | exact PutC.out | repeat (first | exact .here | apply Has.there | apply Put.there | apply Has.app | apply Put.app)) rfl ?_))
    all_goals (first | refine w_skip rfl ?_ | (refine x_call (list_g (hT.sub (List.nil_sublist _)) (by omega) (by omega)) rfl rfl rfl ?_; rintro _ _ ⟨S8, rfl, hS8⟩))
    all_goals (first | refine w_skip rfl ?_ | (refine w_mov rfl (by (conv => lhs; whnf); first | done | rfl) ?_))
    all_goals (first | refine w_skip rfl ?_ | (refine x_callp (by decide) (has_g (xs := lst t) (SlR.ofOSl (by rw [flatI]; exact hS8) rfl hul (List.sublist_append_left _ _))) rfl rfl rfl ?_))
    all_goals (first | refine w_skip rfl ?_ | (refine w_notd rfl (by (conv => lhs; whnf); first | done | rfl) ?_))
    all_goals (first | refine w_pick_t rfl rfl (by (conv => lhs; whnf); first | done | rfl) ?_ | refine w_pick_f rfl rfl (by (conv => lhs; whnf); first | done | rfl) ?_)
    all_goals (refine w_asg rfl (by (conv => lhs; whnf); first | done | rfl) ?_)
    all_goals (refine w_nil ?_)
    all_goals (refine jns (by first | exact (Ag.upd rfl (Ag.upd rfl (Ag.upd rfl (Ag.upd rfl (Ag.upd rfl (Ag.upd rfl (Ag.upd rfl (Ag.upd rfl (Ag.upd rfl (Ag.upd rfl (Ag.upd rfl (Ag.upd rfl (Ag.upd rfl (Ag.upd rfl Ag.refl)))))))))))))) | exact (by first | ((repeat (first | with_reducible exact Ag.refl | with_reducible exact Ag.ov | (with_reducible refine Ag.upd ?_ ?_; exact rfl) | with_reducible refine Ag.putn ?_ | (with_reducible refine Ag.ovs ?_ ?_; exact rfl))); done) | (repeat (first | exact Ag.refl | exact Ag.ov | (refine Ag.upd ?_ ?_; exact rfl) | refine Ag.putn ?_ | (refine Ag.ovs ?_ ?_; exact rfl))))) (by (conv => lhs; whnf); first | done | rfl) (by first | exact SubL.out | repeat (first | exact List.Sublist.refl _ | exact List.nil_sublist _ | refine .cons_cons _ ?_ | refine .cons _ ?_ | refine List.Sublist.append (List.Sublist.refl _) ?_ | exact List.sublist_append_left _ _ | refine List.Sublist.trans ?_ (List.sublist_append_right _ _))) ?_)
    all_goals (exact congrArg Value.bool (by first | (refine decide_eq_decide.2 ?_; unfold frsh; rw [← mem_lst]; exact ⟨fun h => ⟨by omega, h⟩, fun h => h.2⟩) | (refine (decide_eq_false ?_).symm; exact fun h => hg (by omega)) | (refine (decide_eq_false ?_).symm; unfold frsh; exact fun h => by omega)))
  refine tq_n ?_
  refine c_ret ?_
  exact rq_r (ra_t (by (conv => lhs; whnf); first | done | rfl) .nil) (List.nil_sublist _) (⟨rfl, rfl⟩)
end
end Go.Proofs.Ytnmhhelcaibdoaa.Pl
