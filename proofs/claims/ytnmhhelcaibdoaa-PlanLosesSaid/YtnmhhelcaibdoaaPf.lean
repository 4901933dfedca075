/- What tables say: where, logged, room, Want; walked in plan. -/
import Derived.Test.YtnmhhelcaibdoaaPd
import Derived.Test.YtnmhhelcaibdoaaSlU
namespace Go.Proofs.Ytnmhhelcaibdoaa.Pl
open Go Go.RowKit Sl
set_option linter.unusedVariables false
set_option linter.unusedSimpArgs false
def lwhr : List Lg → Int → Option (Int × Int)
  | [], _ => none
  | l :: r, p => if 0 ≤ ixOf l.pg p then some (l.ph, ixOf l.pg p) else lwhr r p
/-- The place by the sequential log and the data. -/
def bwhr (t : Tb) (p : Int) : Option (Int × Int) := if 0 ≤ t.sp ∧ t.sl = p / t.P ∧ p % t.P < t.su then some (t.sp, p % t.P) else if t.ha.getD p.toNat false = true then some (t.da.getD (p / t.P).toNat 0, p % t.P) else none
def whr (t : Tb) (p : Int) : Option (Int × Int) := match lwhr t.lo p with
  | some x => some x
  | none => bwhr t p
noncomputable def mayT (t : Tb) : Tb := if May t then t else newT 4 1 1
noncomputable def whrM (t : Tb) (p : Int) : Option (Int × Int) := if 0 ≤ p ∧ p ≤ (mayT t).ha.length - 1 then whr (mayT t) p else none
def pa : Option (Int × Int) → Int
  | some x => x.1
  | none => 0
def pb : Option (Int × Int) → Int
  | some x => x.2
  | none => 0
def plcV (x : Option (Int × Int)) : Value := .tuple #[.agg #[.int .i64 (pa x), .int .i64 (pb x)], .bool x.isSome]
def stV (s : Int × Int) : Value := .agg #[.int .i64 s.1, .int .i64 s.2]
def lgdB (t : Tb) (p : Int) : Bool := decide ((0 ≤ p ∧ p / t.P = t.sl) ∧ p % t.P < t.su)
def lgd (t : Tb) : Bool := t.lo.any fun l => l.pg.any (lgdB t)
/-- How many pages the last log has; none: as many as a block's. -/
def lastN (t : Tb) : Int := if h : 0 < t.lo.length then ((t.lo[t.lo.length - 1]'(by omega)).pg.length : Int) else t.P
abbrev room (t : Tb) : Prop := 0 < t.lo.length ∧ lastN t < t.P
def wantS (t : Tb) (b : Int) : Int × Int := if t.sp < 0 then (3, b) else if t.sl = b ∧ t.su = 0 then (1, b) else if lgd t = true then (7, t.sl) else if t.su < t.P then (6, t.sl) else (5, t.sl)
def fnn : List Int → Option Int
  | [] => none
  | p :: r => if 0 ≤ p then some p else fnn r
def wantV (P : Int) : Option Int → Int × Int
  | some p => (8, p / P)
  | none => (9, 0)
def wantR (t : Tb) : Int × Int := if room t then (2, 0) else if (t.lo.length : Int) < t.K then (4, 0) else wantV t.P (fnn ((t.lo.headD ⟨0, []⟩).pg))
abbrev inB (t : Tb) (p : Int) : Prop := 0 ≤ p ∧ p ≤ (t.ha.length : Int) - 1
def wantP (t : Tb) (p : Int) : Int × Int := if p % t.P = 0 then wantS t (p / t.P) else if (0 ≤ t.sp ∧ t.sl = p / t.P) ∧ t.su = p % t.P then (1, p / t.P) else wantR t
noncomputable def want (t : Tb) (p : Int) : (Int × Int) × Int := if May t then (if inB t p then (wantP t p, 0) else ((0, 0), 1)) else ((0, 0), 50)
def weV (x : (Int × Int) × Int) : Value := .tuple #[stV x.1, .int .i64 x.2]

theorem lwhr_hit {lo : List Lg} {p : Int} {k : Nat} (hk : k < lo.length) (h : lwhr lo p = lwhr (lo.drop k) p) (hi : 0 ≤ ixOf (lo[k]).pg p) : lwhr lo p = some ((lo[k]).ph, ixOf (lo[k]).pg p) := by
  rw [h, List.drop_eq_getElem_cons hk, lwhr, if_pos hi]
theorem lwhr_next {lo : List Lg} {p : Int} {k : Nat} (hk : k < lo.length) (h : lwhr lo p = lwhr (lo.drop k) p) (hi : ¬ 0 ≤ ixOf (lo[k]).pg p) : lwhr lo p = lwhr (lo.drop (k + 1)) p := by
  rw [h, List.drop_eq_getElem_cons hk, lwhr, if_neg hi]
theorem lwhr_end {lo : List Lg} {p : Int} {k : Nat} (hk : lo.length ≤ k) (h : lwhr lo p = lwhr (lo.drop k) p) : lwhr lo p = none := by
  rw [h, List.drop_eq_nil_of_le hk]; rfl
theorem whr_log {t : Tb} {p : Int} {x : Int × Int} (h : lwhr t.lo p = some x) : whr t p = some x := by unfold whr; rw [h]
theorem whr_seq {t : Tb} {p : Int} (h : lwhr t.lo p = none) (h1 : 0 ≤ t.sp ∧ t.sl = p / t.P ∧ p % t.P < t.su) : whr t p = some (t.sp, p % t.P) := by unfold whr; rw [h]; exact if_pos h1
theorem getD_of {α : Type} {l : List α} {i : Nat} {d : α} (h : i < l.length) : l.getD i d = l[i] := by simp [h]
theorem whr_dat {t : Tb} {p : Int} (h : lwhr t.lo p = none) (h1 : ¬ (0 ≤ t.sp ∧ t.sl = p / t.P ∧ p % t.P < t.su)) (hp : p.toNat < t.ha.length) (h2 : t.ha[p.toNat] = true) (hd : (p / t.P).toNat < t.da.length) : whr t p = some (t.da[(p / t.P).toNat], p % t.P) := by
  unfold whr; rw [h]; show bwhr t p = _; rw [bwhr, if_neg h1, getD_of hp, if_pos h2, getD_of hd]
theorem whr_non {t : Tb} {p : Int} (h : lwhr t.lo p = none) (h1 : ¬ (0 ≤ t.sp ∧ t.sl = p / t.P ∧ p % t.P < t.su)) (hp : p.toNat < t.ha.length) (h2 : ¬ t.ha[p.toNat] = true) : whr t p = none := by
  unfold whr; rw [h]; show bwhr t p = _; rw [bwhr, if_neg h1, getD_of hp, if_neg h2]
theorem div_lt' {t : Tb} {p : Int} (h : Lists t) (h0 : 0 ≤ p) (hi : p < t.ha.length) : (p / t.P).toNat < t.da.length := by
  have := div_lt (i := p.toNat) h (by omega)
  rwa [Int.toNat_of_nonneg h0] at this
section
variable {w0 : World} {L : Own}
theorem where_g {v : Value} {t : Tb} {p : Int} (h : TabR w0 L v t) (hLi : Lists t) (h0 : 0 ≤ p) (h1 : p < t.ha.length) : Gives Try.prog w0 L 66 [v, .int .i64 p] (fun v' L' => v' = plcV (whr t p) ∧ L' = L) := by
  refine enterP Try.func66 rfl Try.ntmps66 Try.results66 (Nat.le_of_ble_eq_true rfl) fun w hM => ?_
  obtain ⟨vd, vh, vl, rfl, hd, hh, hlo⟩ := ((h).at hM).ex; obtain ⟨Ad, cd, rfl, hdc, hdl, hdA, hdR⟩ := id hd.ex; obtain ⟨Ah, ch, rfl, hhc, hhl, hhA, hhR⟩ := id hh.ex; obtain ⟨Al, cl, rfl, hlc, hll, hlA, hlR⟩ := LogR.opn hlo
  clear hM
  have hP : 4 ≤ t.P := hLi.1.1.1.1
  have hdlt := div_lt' hLi h0 h1
  have hdp : 0 ≤ p / t.P := Int.ediv_nonneg h0 (by omega)
  have hplt : p.toNat < t.ha.length := by omega
  refine c_seq ?_
  refine c_region ?_
  refine x_boxa rfl (by (conv => lhs; whnf); first | done | rfl) ?_
  intro b2
  refine x_al rfl ?_
  intro b4
  refine w_asg rfl (by (conv => lhs; whnf); first | done | rfl) ?_
  refine w_nil ?_
  refine tq_n ?_
  refine c_seq ?_
  refine c_seq ?_
  refine c_region ?_
  refine x_fa rfl (by (conv => lhs; whnf); first | done | rfl) ?_
  refine x_ldo rfl (by (conv => lhs; whnf); first | done | rfl) (by first | exact HasC.out | exact PutC.out | repeat (first | exact .here | apply Has.there | apply Put.there | apply Has.app | apply Put.app)) (by (conv => lhs; whnf); first | done | rfl) ?_
  refine x_len rfl (by (conv => lhs; whnf); first | done | rfl) ?_
  refine w_mov rfl (by (conv => lhs; whnf); first | done | rfl) ?_
  refine w_nil ?_
  refine tq_n ?_
  refine c_block ?_
  refine c_loop_ov [15, 16, 17, 7, 18, 19, 20, 21, 8, 22, 23, 24, 25, 26, 27, 5, 28, 14] (fun m s L => ∃ (k : Nat), k ≤ t.lo.length ∧ lwhr t.lo p = lwhr (t.lo.drop k) p ∧ m = t.lo.length - k ∧ s = [(14, .int .i64 k)] ∧ L = [(b4, B 29 [.int .i64 0, .int .i64 0]), (b2, B 43 (cT t Ad cd Ah ch Al cl))]) (t.lo.length) [(14, .int .i64 (0 : Nat))] (by repeat (first | exact .nil | refine .cons rfl ?_)) (by first | exact SubL.out | repeat (first | exact List.Sublist.refl _ | exact List.nil_sublist _ | refine .cons_cons _ ?_ | refine .cons _ ?_ | refine List.Sublist.append (List.Sublist.refl _) ?_ | exact List.sublist_append_left _ _ | refine List.Sublist.trans ?_ (List.sublist_append_right _ _))) (⟨0, by omega, rfl, by omega, rfl, rfl⟩) ?_
  rintro mI sI LI gL0 ⟨k, hk, hw, rfl, rfl, rfl⟩
  refine c_seq ?_
  refine c_region ?_
  refine w_lss rfl (by (conv => lhs; whnf); first | done | rfl) (by (conv => lhs; whnf); first | done | rfl) ?_
  refine w_nil ?_
  refine tq_n ?_
  refine c_seq ?_
  refine c_cond_d (by (conv => lhs; whnf); first | done | rfl) (fun hc15 => ?_) (fun hc15 => ?_)
  · have hlt : k < t.lo.length := by omega
    obtain ⟨Ap, cp, hpc, hpl, hpA, hpR, hpI, hph, hpv⟩ := hlR k _ (getN hlt)
    refine c_skip ?_
    refine tq_n ?_
    refine c_seq ?_
    refine c_block ?_
    refine c_seq ?_
    refine c_region ?_
    refine x_ixA rfl (by (conv => lhs; whnf); first | done | rfl) (by (conv => lhs; whnf); first | done | rfl) (hlA (ne_of_lt hlt)) (by omega) (by omega) ?_
    refine x_lda (vs := [.int .i64 (t.lo[k]'hlt).ph, .slice Ap (t.lo[k]'hlt).pg.length cp]) rfl (by (conv => lhs; whnf); first | done | rfl) (rfl) (rd2 hph hpv) ?_
    refine x_al rfl ?_
    intro b7
    refine x_stw rfl (by (conv => lhs; whnf); first | done | rfl) (by (conv => lhs; whnf); first | done | rfl) rfl rfl (by first | exact HasC.out | exact PutC.out | repeat (first | exact .here | apply Has.there | apply Put.there | apply Has.app | apply Put.app)) rfl ?_
    refine w_nil ?_
    refine tq_n ?_
    refine c_seq ?_
    refine c_region ?_
    refine x_fa rfl (by (conv => lhs; whnf); first | done | rfl) ?_
    refine x_ldo rfl (by (conv => lhs; whnf); first | done | rfl) (by first | exact HasC.out | exact PutC.out | repeat (first | exact .here | apply Has.there | apply Put.there | apply Has.app | apply Put.app)) (by (conv => lhs; whnf); first | done | rfl) ?_
    refine w_mov rfl (by (conv => lhs; whnf); first | done | rfl) ?_
    refine x_callp (by decide) (index_g (hpI.sub (List.nil_sublist _))) rfl rfl rfl ?_
    refine w_asg rfl (by (conv => lhs; whnf); first | done | rfl) ?_
    refine w_nil ?_
    refine tq_n ?_
    refine c_seq ?_
    refine c_region ?_
    refine w_mov rfl (by (conv => lhs; whnf); first | done | rfl) ?_
    refine w_geq rfl (by (conv => lhs; whnf); first | done | rfl) (by (conv => lhs; whnf); first | done | rfl) ?_
    refine w_nil ?_
    refine tq_n ?_
    refine c_cond_d (by (conv => lhs; whnf); first | done | rfl) (fun hc23 => ?_) (fun hc23 => ?_)
    · refine c_seq ?_
      refine c_region ?_
      refine x_fa rfl (by (conv => lhs; whnf); first | done | rfl) ?_
      refine x_ldo rfl (by (conv => lhs; whnf); first | done | rfl) (by first | exact HasC.out | exact PutC.out | repeat (first | exact .here | apply Has.there | apply Put.there | apply Has.app | apply Put.app)) (by (conv => lhs; whnf); first | done | rfl) ?_
      refine w_mov rfl (by (conv => lhs; whnf); first | done | rfl) ?_
      refine x_bld rfl (.cons (by (conv => lhs; whnf); first | done | rfl) (.cons (by (conv => lhs; whnf); first | done | rfl) .nil)) rfl ?_
      refine x_stw rfl (by (conv => lhs; whnf); first | done | rfl) (by (conv => lhs; whnf); first | done | rfl) rfl rfl (by first | exact HasC.out | exact PutC.out | repeat (first | exact .here | apply Has.there | apply Put.there | apply Has.app | apply Put.app)) rfl ?_
      refine w_asg rfl (by (conv => lhs; whnf); first | done | rfl) ?_
      refine w_nil ?_
      refine tq_n ?_
      refine c_ret ?_
      refine bq_r ?_
      refine tq_r ?_
      refine tq_r ?_
      refine bq_r ?_
      refine tq_r ?_
      exact rq_r (ra_c (by (conv => lhs; whnf); first | done | rfl) (by first | exact HasC.out | exact PutC.out | repeat (first | exact .here | apply Has.there | apply Put.there | apply Has.app | apply Put.app)) rfl (ra_t (by (conv => lhs; whnf); first | done | rfl) .nil)) (List.nil_sublist _) (⟨by rw [whr_log (lwhr_hit hlt hw hc23)]; rfl, rfl⟩)
    · refine c_skip ?_
      refine bq_n ?_
      refine tq_n ?_
      refine c_region ?_
      refine w_add rfl (by (conv => lhs; whnf); first | done | rfl) (by (conv => lhs; whnf); first | done | rfl) (by omega) ?_
      refine w_mov rfl (by (conv => lhs; whnf); first | done | rfl) ?_
      refine w_nil ?_
      refine tq_n ?_
      exact ⟨(by first | ((repeat (first | with_reducible exact Ag.refl | with_reducible exact Ag.ov | (with_reducible refine Ag.upd ?_ ?_; exact rfl) | with_reducible refine Ag.putn ?_ | (with_reducible refine Ag.ovs ?_ ?_; exact rfl))); done) | (repeat (first | exact Ag.refl | exact Ag.ov | (refine Ag.upd ?_ ?_; exact rfl) | refine Ag.putn ?_ | (refine Ag.ovs ?_ ?_; exact rfl)))), t.lo.length - (k + 1), [(14, .int .i64 ((k + 1 : Nat) : Int))], _, by omega, (by first | exact SubL.out | repeat (first | exact List.Sublist.refl _ | exact List.nil_sublist _ | refine .cons_cons _ ?_ | refine .cons _ ?_ | refine List.Sublist.append (List.Sublist.refl _) ?_ | exact List.sublist_append_left _ _ | refine List.Sublist.trans ?_ (List.sublist_append_right _ _))), (by repeat (first | exact .nil | refine .cons rfl ?_)), ⟨k + 1, by omega, lwhr_next hlt hw hc23, rfl, rfl, rfl⟩⟩
  · have hwn := lwhr_end (by omega) hw
    refine c_exit ?_
    refine tq_e ?_
    refine tq_e ?_
    refine bq_e ?_
    refine tq_n ?_
    refine c_seq ?_
    refine c_draw mixed (by kernel_rfl) ?_
    refine w_mov rfl (by (conv => lhs; whnf); first | done | rfl) ?_
    refine x_fa rfl (by (conv => lhs; whnf); first | done | rfl) ?_
    refine x_ldo rfl (by (conv => lhs; whnf); first | done | rfl) (by first | exact HasC.out | exact PutC.out | repeat (first | exact .here | apply Has.there | apply Put.there | apply Has.app | apply Put.app)) (by (conv => lhs; whnf); first | done | rfl) ?_
    refine w_quo rfl (by (conv => lhs; whnf); first | done | rfl) (by (conv => lhs; whnf); first | done | rfl) (by omega) (by omega) (by omega) ?_
    refine w_mov rfl (by (conv => lhs; whnf); first | done | rfl) ?_
    refine x_fa rfl (by (conv => lhs; whnf); first | done | rfl) ?_
    refine x_ldo rfl (by (conv => lhs; whnf); first | done | rfl) (by first | exact HasC.out | exact PutC.out | repeat (first | exact .here | apply Has.there | apply Put.there | apply Has.app | apply Put.app)) (by (conv => lhs; whnf); first | done | rfl) ?_
    refine w_rem rfl (by (conv => lhs; whnf); first | done | rfl) (by (conv => lhs; whnf); first | done | rfl) (by omega) (by omega) ?_
    refine w_asg rfl (by (conv => lhs; whnf); first | done | rfl) ?_
    refine w_asg rfl (by (conv => lhs; whnf); first | done | rfl) ?_
    refine w_nil ?_
    refine tq_n ?_
    refine c_seq ?_
    refine c_block ?_
    refine c_seq ?_
    refine c_region_j [38, 39, 40, 41, 42, 43, 44, 45, 46, 47, 48, 49, 50, 51, 52, 53, 54, 55, 37] 37 (.bool (decide (0 ≤ t.sp ∧ t.sl = p / t.P ∧ p % t.P < t.su))) ?_ (fun g9 => ?_)
    · all_goals (refine x_fa rfl (by (conv => lhs; whnf); first | done | rfl) ?_)
      all_goals (refine x_fa rfl (by (conv => lhs; whnf); first | done | rfl) ?_)
      all_goals (refine x_ldo rfl (by (conv => lhs; whnf); first | done | rfl) (by first | exact HasC.out | exact PutC.out | repeat (first | exact .here | apply Has.there | apply Put.there | apply Has.app | apply Put.app)) (by (conv => lhs; whnf); first | done | rfl) ?_)
      all_goals (refine w_geq rfl (by (conv => lhs; whnf); first | done | rfl) (by (conv => lhs; whnf); first | done | rfl) ?_)
      all_goals (refine w_mov rfl (by (conv => lhs; whnf); first | done | rfl) ?_)
      all_goals (first | refine w_lit true rfl rfl rfl ?_ | refine w_lit false rfl rfl rfl ?_ | refine w_cases_od rfl rfl rfl (fun hg => ?_) (fun hg => ?_) | refine w_cases_o rfl rfl rfl (fun hg => ?_) (fun hg => ?_) | skip)
      all_goals (first | refine w_skip rfl ?_ | (refine x_fa rfl (by (conv => lhs; whnf); first | done | rfl) ?_))
      all_goals (first | refine w_skip rfl ?_ | (refine x_fa rfl (by (conv => lhs; whnf); first | done | rfl) ?_))
      all_goals (first | refine w_skip rfl ?_ | (refine x_ldo rfl (by (conv => lhs; whnf); first | done | rfl) (by first | exact HasC.out | exact PutC.out | repeat (first | exact .here | apply Has.there | apply Put.there | apply Has.app | apply Put.app)) (by (conv => lhs; whnf); first | done | rfl) ?_))
      all_goals (first | refine w_skip rfl ?_ | (refine w_mov rfl (by (conv => lhs; whnf); first | done | rfl) ?_))
      all_goals (first | refine w_skip rfl ?_ | (refine w_eql rfl (by (conv => lhs; whnf); first | done | rfl) (by (conv => lhs; whnf); first | done | rfl) ?_))
      all_goals (first | refine w_pick_t rfl rfl (by (conv => lhs; whnf); first | done | rfl) ?_ | refine w_pick_f rfl rfl (by (conv => lhs; whnf); first | done | rfl) ?_)
      all_goals (refine w_mov rfl (by (conv => lhs; whnf); first | done | rfl) ?_)
      all_goals (first | refine w_lit true rfl rfl rfl ?_ | refine w_lit false rfl rfl rfl ?_ | refine w_cases_od rfl rfl rfl (fun hg => ?_) (fun hg => ?_) | refine w_cases_o rfl rfl rfl (fun hg => ?_) (fun hg => ?_) | skip)
      all_goals (first | refine w_skip rfl ?_ | (refine x_fa rfl (by (conv => lhs; whnf); first | done | rfl) ?_))
      all_goals (first | refine w_skip rfl ?_ | (refine x_fa rfl (by (conv => lhs; whnf); first | done | rfl) ?_))
      all_goals (first | refine w_skip rfl ?_ | (refine x_ldo rfl (by (conv => lhs; whnf); first | done | rfl) (by first | exact HasC.out | exact PutC.out | repeat (first | exact .here | apply Has.there | apply Put.there | apply Has.app | apply Put.app)) (by (conv => lhs; whnf); first | done | rfl) ?_))
      all_goals (first | refine w_skip rfl ?_ | (refine w_mov rfl (by (conv => lhs; whnf); first | done | rfl) ?_))
      all_goals (first | refine w_skip rfl ?_ | (refine w_gtr rfl (by (conv => lhs; whnf); first | done | rfl) (by (conv => lhs; whnf); first | done | rfl) ?_))
      all_goals (first | refine w_pick_t rfl rfl (by (conv => lhs; whnf); first | done | rfl) ?_ | refine w_pick_f rfl rfl (by (conv => lhs; whnf); first | done | rfl) ?_)
      all_goals (refine w_asg rfl (by (conv => lhs; whnf); first | done | rfl) ?_)
      all_goals (refine w_nil ?_)
      all_goals (refine jn (by first | exact (Ag.upd rfl (Ag.upd rfl (Ag.upd rfl (Ag.upd rfl (Ag.upd rfl (Ag.upd rfl (Ag.upd rfl (Ag.upd rfl (Ag.upd rfl (Ag.upd rfl (Ag.upd rfl (Ag.upd rfl (Ag.upd rfl (Ag.upd rfl (Ag.upd rfl (Ag.upd rfl (Ag.upd rfl (Ag.upd rfl (Ag.upd rfl Ag.refl))))))))))))))))))) | exact (by first | ((repeat (first | with_reducible exact Ag.refl | with_reducible exact Ag.ov | (with_reducible refine Ag.upd ?_ ?_; exact rfl) | with_reducible refine Ag.putn ?_ | (with_reducible refine Ag.ovs ?_ ?_; exact rfl))); done) | (repeat (first | exact Ag.refl | exact Ag.ov | (refine Ag.upd ?_ ?_; exact rfl) | refine Ag.putn ?_ | (refine Ag.ovs ?_ ?_; exact rfl))))) (by (conv => lhs; whnf); first | done | rfl) ?_)
      all_goals (exact congrArg Value.bool (by first | rfl | (refine decide_eq_decide.2 ?_; omega) | (refine (decide_eq_true ?_).symm; omega) | (refine (decide_eq_false ?_).symm; omega) | simp_all))
    refine tq_n ?_
    refine c_cond_d (by (conv => lhs; whnf); first | done | rfl) (fun hc37 => ?_) (fun hc37 => ?_)
    · refine c_seq ?_
      refine c_region ?_
      refine x_fa rfl (by (conv => lhs; whnf); first | done | rfl) ?_
      refine x_fa rfl (by (conv => lhs; whnf); first | done | rfl) ?_
      refine x_ldo rfl (by (conv => lhs; whnf); first | done | rfl) (by first | exact HasC.out | exact PutC.out | repeat (first | exact .here | apply Has.there | apply Put.there | apply Has.app | apply Put.app)) (by (conv => lhs; whnf); first | done | rfl) ?_
      refine w_mov rfl (by (conv => lhs; whnf); first | done | rfl) ?_
      refine x_bld rfl (.cons (by (conv => lhs; whnf); first | done | rfl) (.cons (by (conv => lhs; whnf); first | done | rfl) .nil)) rfl ?_
      refine x_stw rfl (by (conv => lhs; whnf); first | done | rfl) (by (conv => lhs; whnf); first | done | rfl) rfl rfl (by first | exact HasC.out | exact PutC.out | repeat (first | exact .here | apply Has.there | apply Put.there | apply Has.app | apply Put.app)) rfl ?_
      refine w_asg rfl (by (conv => lhs; whnf); first | done | rfl) ?_
      refine w_nil ?_
      refine tq_n ?_
      refine c_ret ?_
      refine bq_r ?_
      refine tq_r ?_
      exact rq_r (ra_c (by (conv => lhs; whnf); first | done | rfl) (by first | exact HasC.out | exact PutC.out | repeat (first | exact .here | apply Has.there | apply Put.there | apply Has.app | apply Put.app)) rfl (ra_t (by (conv => lhs; whnf); first | done | rfl) .nil)) (List.nil_sublist _) (⟨by rw [whr_seq hwn hc37]; rfl, rfl⟩)
    · refine c_seq ?_
      refine c_region ?_
      refine x_fa rfl (by (conv => lhs; whnf); first | done | rfl) ?_
      refine x_ldo rfl (by (conv => lhs; whnf); first | done | rfl) (by first | exact HasC.out | exact PutC.out | repeat (first | exact .here | apply Has.there | apply Put.there | apply Has.app | apply Put.app)) (by (conv => lhs; whnf); first | done | rfl) ?_
      refine w_mov rfl (by (conv => lhs; whnf); first | done | rfl) ?_
      refine x_ixA rfl (by (conv => lhs; whnf); first | done | rfl) (by (conv => lhs; whnf); first | done | rfl) (hhA (ne_of_lt hplt)) (by omega) (by omega) ?_
      refine x_ld rfl (by (conv => lhs; whnf); first | done | rfl) (rdB (j := p) hhR (getN hplt)) ?_
      refine w_asg rfl (by (conv => lhs; whnf); first | done | rfl) ?_
      refine w_nil ?_
      refine tq_n ?_
      refine c_cond (by (conv => lhs; whnf); first | done | rfl) (fun hc61 => ?_) (fun hc61 => ?_)
      · refine c_seq ?_
        refine c_region ?_
        refine x_fa rfl (by (conv => lhs; whnf); first | done | rfl) ?_
        refine x_ldo rfl (by (conv => lhs; whnf); first | done | rfl) (by first | exact HasC.out | exact PutC.out | repeat (first | exact .here | apply Has.there | apply Put.there | apply Has.app | apply Put.app)) (by (conv => lhs; whnf); first | done | rfl) ?_
        refine w_mov rfl (by (conv => lhs; whnf); first | done | rfl) ?_
        refine x_ixA rfl (by (conv => lhs; whnf); first | done | rfl) (by (conv => lhs; whnf); first | done | rfl) (hdA (ne_of_lt hdlt)) (hdp) (by omega) ?_
        refine x_ld rfl (by (conv => lhs; whnf); first | done | rfl) (rdI (j := p / t.P) hdR (getN hdlt)) ?_
        refine w_mov rfl (by (conv => lhs; whnf); first | done | rfl) ?_
        refine x_bld rfl (.cons (by (conv => lhs; whnf); first | done | rfl) (.cons (by (conv => lhs; whnf); first | done | rfl) .nil)) rfl ?_
        refine x_stw rfl (by (conv => lhs; whnf); first | done | rfl) (by (conv => lhs; whnf); first | done | rfl) rfl rfl (by first | exact HasC.out | exact PutC.out | repeat (first | exact .here | apply Has.there | apply Put.there | apply Has.app | apply Put.app)) rfl ?_
        refine w_asg rfl (by (conv => lhs; whnf); first | done | rfl) ?_
        refine w_nil ?_
        refine tq_n ?_
        refine c_ret ?_
        refine bq_r ?_
        refine tq_r ?_
        exact rq_r (ra_c (by (conv => lhs; whnf); first | done | rfl) (by first | exact HasC.out | exact PutC.out | repeat (first | exact .here | apply Has.there | apply Put.there | apply Has.app | apply Put.app)) rfl (ra_t (by (conv => lhs; whnf); first | done | rfl) .nil)) (List.nil_sublist _) (⟨by rw [whr_dat hwn hc37 hplt hc61 hdlt]; rfl, rfl⟩)
      · refine c_skip ?_
        refine bq_n ?_
        refine tq_n ?_
        refine c_seq ?_
        refine c_region ?_
        refine x_bld rfl .nil rfl ?_
        refine x_stw rfl (by (conv => lhs; whnf); first | done | rfl) (by (conv => lhs; whnf); first | done | rfl) rfl rfl (by first | exact HasC.out | exact PutC.out | repeat (first | exact .here | apply Has.there | apply Put.there | apply Has.app | apply Put.app)) rfl ?_
        refine w_asg rfl (by (conv => lhs; whnf); first | done | rfl) ?_
        refine w_nil ?_
        refine tq_n ?_
        refine c_ret ?_
        exact rq_r (ra_c (by (conv => lhs; whnf); first | done | rfl) (by first | exact HasC.out | exact PutC.out | repeat (first | exact .here | apply Has.there | apply Put.there | apply Has.app | apply Put.app)) rfl (ra_t (by (conv => lhs; whnf); first | done | rfl) .nil)) (List.nil_sublist _) (⟨by rw [whr_non hwn hc37 hplt (by rw [hc61]; decide)]; rfl, rfl⟩)
theorem TabR.form {v : Value} {t : Tb} (h : TabR w0 L v t) : ∃ Ad cd Ah ch Al cl, v = .agg (cT t Ad cd Ah ch Al cl).toArray := by
  obtain ⟨vd, vh, vl, rfl, hd, hh, hlo⟩ := h.ex
  obtain ⟨Ad, cd, rfl, _⟩ := hd.ex
  obtain ⟨Ah, ch, rfl, _⟩ := hh.ex
  obtain ⟨lv, ⟨Al, cl, rfl, _⟩, hl, _⟩ := hlo.ex
  exact ⟨Ad, cd, Ah, ch, Al, cl, by rw [hl]⟩
theorem may_g {v : Value} {t : Tb} (h : TabR w0 L v t) : Gives Try.prog w0 L 65 [v] (fun v' L' => ∃ S, L' = S ++ L ∧ (May t → v' = v ∧ S = []) ∧ (¬ May t → TabO S v' (newT 4 1 1))) := by
  refine enterB (R := fun v' S => (May t → v' = v ∧ S = []) ∧ (¬ May t → TabO S v' (newT 4 1 1))) Try.func65 rfl Try.ntmps65 Try.results65 (Nat.le_of_ble_eq_true rfl) fun w hM => ?_
  have hT := h.at hM
  obtain ⟨vd, vh, vl, rfl, hd, hh, hlo⟩ := ((h).at hM).ex; obtain ⟨Ad, cd, rfl, hdc, hdl, hdA, hdR⟩ := id hd.ex; obtain ⟨Ah, ch, rfl, hhc, hhl, hhA, hhR⟩ := id hh.ex; obtain ⟨Al, cl, rfl, hlc, hll, hlA, hlR⟩ := LogR.opn hlo
  clear hM
  refine c_seq ?_
  refine c_region ?_
  refine x_boxa rfl (by (conv => lhs; whnf); first | done | rfl) ?_
  intro b1
  refine x_al rfl ?_
  intro b2
  refine w_nil ?_
  refine tq_n ?_
  refine c_seq ?_
  refine c_seq ?_
  refine c_region ?_
  refine x_ldao rfl (by (conv => lhs; whnf); first | done | rfl) (by first | exact HasC.out | exact PutC.out | repeat (first | exact .here | apply Has.there | apply Put.there | apply Has.app | apply Put.app)) rfl ?_
  refine x_callp (by decide) (check_g (hT.sub (List.nil_sublist _))) rfl rfl rfl ?_
  refine w_neq rfl (by (conv => lhs; whnf); first | done | rfl) (by (conv => lhs; whnf); first | done | rfl) ?_
  refine w_nil ?_
  refine tq_n ?_
  refine c_cond_d (by (conv => lhs; whnf); first | done | rfl) (fun hc5 => ?_) (fun hc5 => ?_)
  · have hm : ¬ May t := fun hm => hc5 (if_pos hm)
    refine c_region ?_
    refine x_call (new_g) rfl rfl rfl ?_
    rintro _ _ ⟨S35, rfl, hS35⟩
    obtain ⟨tv, rfl, hO⟩ := hS35.1 (by decide)
    obtain ⟨Ad2, cd2, Ah2, ch2, Al2, cl2, rfl⟩ := (hO w _ (List.Sublist.refl _)).form
    refine w_mov rfl (by (conv => lhs; whnf); first | done | rfl) ?_
    refine w_ext rfl (by (conv => lhs; whnf); first | done | rfl) (by (conv => lhs; whnf); first | done | rfl) ?_
    refine w_ext rfl (by (conv => lhs; whnf); first | done | rfl) (by (conv => lhs; whnf); first | done | rfl) ?_
    refine x_stw rfl (by (conv => lhs; whnf); first | done | rfl) (by (conv => lhs; whnf); first | done | rfl) rfl rfl (by first | exact HasC.out | exact PutC.out | repeat (first | exact .here | apply Has.there | apply Put.there | apply Has.app | apply Put.app)) rfl ?_
    refine w_nil ?_
    refine tq_n ?_
    refine c_seq ?_
    refine c_region ?_
    refine x_ldao rfl (by (conv => lhs; whnf); first | done | rfl) (by first | exact HasC.out | exact PutC.out | repeat (first | exact .here | apply Has.there | apply Put.there | apply Has.app | apply Put.app)) rfl ?_
    refine x_stw rfl (by (conv => lhs; whnf); first | done | rfl) (by (conv => lhs; whnf); first | done | rfl) rfl rfl (by first | exact HasC.out | exact PutC.out | repeat (first | exact .here | apply Has.there | apply Put.there | apply Has.app | apply Put.app)) rfl ?_
    refine w_nil ?_
    refine tq_n ?_
    refine c_ret ?_
    exact rq_r (ra_c (by (conv => lhs; whnf); first | done | rfl) (by first | exact HasC.out | exact PutC.out | repeat (first | exact .here | apply Has.there | apply Put.there | apply Has.app | apply Put.app)) rfl .nil) (by first | exact SubL.out | repeat (first | exact List.Sublist.refl _ | exact List.nil_sublist _ | refine .cons_cons _ ?_ | refine .cons _ ?_ | refine List.Sublist.append (List.Sublist.refl _) ?_ | exact List.sublist_append_left _ _ | refine List.Sublist.trans ?_ (List.sublist_append_right _ _))) (⟨fun h => absurd h hm, fun _ => fun w1 L1 hs => hO w1 L1 ((show S35.Sublist _ from (by first | exact SubL.out | repeat (first | exact List.Sublist.refl _ | exact List.nil_sublist _ | refine .cons_cons _ ?_ | refine .cons _ ?_ | refine List.Sublist.append (List.Sublist.refl _) ?_ | exact List.sublist_append_left _ _ | refine List.Sublist.trans ?_ (List.sublist_append_right _ _)))).trans hs)⟩)
  · have hm : May t := Decidable.byContradiction fun hm => hc5 (by rw [if_neg hm]; decide)
    refine c_skip ?_
    refine tq_n ?_
    refine c_seq ?_
    refine c_region ?_
    refine x_ldao rfl (by (conv => lhs; whnf); first | done | rfl) (by first | exact HasC.out | exact PutC.out | repeat (first | exact .here | apply Has.there | apply Put.there | apply Has.app | apply Put.app)) rfl ?_
    refine x_stw rfl (by (conv => lhs; whnf); first | done | rfl) (by (conv => lhs; whnf); first | done | rfl) rfl rfl (by first | exact HasC.out | exact PutC.out | repeat (first | exact .here | apply Has.there | apply Put.there | apply Has.app | apply Put.app)) rfl ?_
    refine w_nil ?_
    refine tq_n ?_
    refine c_ret ?_
    exact rq_r (ra_c (by (conv => lhs; whnf); first | done | rfl) (by first | exact HasC.out | exact PutC.out | repeat (first | exact .here | apply Has.there | apply Put.there | apply Has.app | apply Put.app)) rfl .nil) (by first | exact SubL.out | repeat (first | exact List.Sublist.refl _ | exact List.nil_sublist _ | refine .cons_cons _ ?_ | refine .cons _ ?_ | refine List.Sublist.append (List.Sublist.refl _) ?_ | exact List.sublist_append_left _ _ | refine List.Sublist.trans ?_ (List.sublist_append_right _ _))) (⟨fun _ => ⟨rfl, rfl⟩, fun h => absurd hm h⟩)
end
end Go.Proofs.Ytnmhhelcaibdoaa.Pl
