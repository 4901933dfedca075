/- Tables in memory of the call's own, that may be written; the copy of a table (plan.Clone). -/
import Derived.Test.YtnmhhelcaibdoaaPh
namespace Go.Proofs.Ytnmhhelcaibdoaa.Pl
open Go Go.RowKit Sl
set_option linter.unusedVariables false
set_option linter.unusedSimpArgs false
/-- Logs whose pages lie in blocks of the call's own. -/
inductive LW : List (Int × Value) → List Lg → Own → Prop
  | nil : LW [] [] []
  | snoc {lv : List (Int × Value)} {lo : List Lg} {S S1 : Own} {ph : Int} {pv : Value} {pg : List Int} (h : LW lv lo S) (h1 : OSl 3 1 pv (pg.map (Value.int .i64)) pg.length S1) (hb : pg.length ≤ 1152921504606846976) : LW (lv ++ [(ph, pv)]) (lo ++ [⟨ph, pg⟩]) (S1 ++ S)
theorem LW.len {lv : List (Int × Value)} {lo : List Lg} {S : Own} (h : LW lv lo S) : lv.length = lo.length := by
  induction h with
  | nil => rfl
  | snoc _ _ _ ih => simp [ih]
theorem LW.logR {lv : List (Int × Value)} {lo : List Lg} {S : Own} (h : LW lv lo S) {w0 : World} {L : Own} (hs : S.Sublist L) : ∀ (i : Nat) (x : Int × Value) (l : Lg), lv[i]? = some x → lo[i]? = some l → x.1 = l.ph ∧ IL w0 L x.2 l.pg := by
  induction h with
  | nil => intro i x l hx; simp at hx
  | @snoc lv lo S S1 ph pv pg h h1 hb ih =>
    intro i x l hx hl
    have hlen := h.len
    by_cases hi : i < lo.length
    · rw [List.getElem?_append_left (by omega)] at hx
      rw [List.getElem?_append_left hi] at hl
      exact ih ((List.sublist_append_right _ _).trans hs) i x l hx hl
    · rw [List.getElem?_append_right (by omega)] at hx hl
      have hi0 : i = lo.length := by
        have := (List.getElem?_eq_some_iff.1 hl).1
        simp at this; omega
      rw [show i - lv.length = 0 by omega] at hx
      rw [show i - lo.length = 0 by omega] at hl
      simp at hx hl
      subst hx; subst hl
      exact ⟨rfl, SlR.ofOSl (by rw [flatI]; exact h1) rfl hb ((List.sublist_append_left _ _).trans hs)⟩
/-- A table that may be written: its four heaps of blocks. -/
def TW (v : Value) (t : Tb) (Sv Sp Sd Sh : Own) : Prop := ∃ vd vh vl lv, v = .agg #[.int .i64 t.P, .int .i64 t.G, .int .i64 t.K, vd, vh, .int .i64 t.sp, .int .i64 t.sl, .int .i64 t.su, vl] ∧
  OSl 3 1 vd (t.da.flatMap Sl.encI) t.da.length Sd ∧ OSl 4 1 vh (t.ha.flatMap Sl.encB) t.ha.length Sh ∧ OSl 102 2 vl (lv.flatMap encL) t.lo.length Sv ∧ LW lv t.lo Sp
/-- No list is so long that a copy would not do. -/
def Cl (t : Tb) : Prop := t.da.length ≤ 1048576 ∧ t.ha.length ≤ 1048576 ∧ t.lo.length ≤ 1048576 ∧ ∀ l ∈ t.lo, l.pg.length ≤ 1048576
theorem Cl.logR {t : Tb} {lv : List (Int × Value)} {vl : Value} {Sv Sp L : Own} {w0 : World} (h3 : OSl 102 2 vl (lv.flatMap encL) t.lo.length Sv) (h4 : LW lv t.lo Sp) (hc : t.lo.length ≤ 1048576) (hs : Sv.Sublist L) (hs' : Sp.Sublist L) : LogR w0 L vl t.lo :=
  ⟨lv, SlR.ofOSl h3 h4.len (by omega) hs, h4.len, h4.logR hs'⟩
theorem TW.tab {v : Value} {t : Tb} {Sv Sp Sd Sh : Own} (h : TW v t Sv Sp Sd Sh) (hc : Cl t) {w0 : World} {L : Own} (h1 : Sv.Sublist L) (h2 : Sp.Sublist L) (h3 : Sd.Sublist L) (h4 : Sh.Sublist L) : TabR w0 L v t := by
  obtain ⟨vd, vh, vl, lv, e, g1, g2, g3, g4⟩ := h
  exact ⟨vd, vh, vl, e, SlR.ofOSl g1 rfl (by have := hc.1; omega) h3, SlR.ofOSl g2 rfl (by have := hc.2.1; omega) h4, Cl.logR g3 g4 hc.2.2.1 h1 h2⟩
theorem Lists.cl {t : Tb} (h : Lists t) : Cl t := by
  have hGP := gp_le h.1.1
  have h1 := h.1.2.1
  have h2 := h.1.2.2.1
  have h3 := h.1.2.2.2
  have h4 := h.1.1
  refine ⟨by omega, by omega, by omega, fun l hl => ?_⟩
  obtain ⟨i, hi, rfl⟩ := List.mem_iff_getElem.1 hl
  have := (h.2.1 i _ (getN hi)).1.1
  omega
section
variable {w0 : World} {L : Own}
theorem sclone_g {v : Value} {xs : List Int} (h : IL w0 L v xs) (hb : xs.length ≤ 1048576) : Gives Try.prog w0 L 105 [v] (fun v' L' => ∃ S, L' = S ++ L ∧ OSl 3 1 v' (xs.map (Value.int .i64)) xs.length S) := by
  refine enterB (R := fun v' S => OSl 3 1 v' (xs.map (Value.int .i64)) xs.length S) Try.func105 rfl Try.ntmps105 Try.results105 (Nat.le_of_ble_eq_true rfl) fun w hM => ?_
  replace h := h.at hM
  obtain ⟨A, cap, rfl, hcap, hlen, hA, hR⟩ := id h.ex
  clear hM
  refine c_seq ?_
  refine c_region ?_
  refine w_asg rfl (by (conv => lhs; whnf); first | done | rfl) ?_
  refine w_nil ?_
  refine tq_n ?_
  refine c_seq ?_
  refine c_seq ?_
  refine c_region ?_
  refine w_mov rfl (by (conv => lhs; whnf); first | done | rfl) ?_
  refine x_eqsn rfl (by (conv => lhs; whnf); first | done | rfl) (by (conv => lhs; whnf); first | done | rfl) ?_
  refine w_nil ?_
  refine tq_n ?_
  refine c_cond (by (conv => lhs; whnf); first | done | rfl) (fun hc4 => ?_) (fun hc4 => ?_)
  · refine c_seq ?_
    refine c_region ?_
    refine w_asg rfl (by (conv => lhs; whnf); first | done | rfl) ?_
    refine w_nil ?_
    refine tq_n ?_
    refine c_ret ?_
    refine tq_r ?_
    exact rq_r (ra_t (by (conv => lhs; whnf); first | done | rfl) .nil) (List.sublist_append_left _ _) ((by have hx : xs = [] := Classical.byContradiction fun hx => (by rw [hA hx] at hc4; cases hc4); subst hx; exact .nil))
  · refine c_skip ?_
    refine tq_n ?_
    refine c_seq ?_
    refine c_region ?_
    refine x_bs0 rfl ?_
    intro b5
    refine w_mov rfl (by (conv => lhs; whnf); first | done | rfl) ?_
    refine x_app rfl (by (conv => lhs; whnf); first | done | rfl) (by (conv => lhs; whnf); first | done | rfl) (List.Perm.refl ([_] ++ _)) (osl_full (n := 0) (cs := []) rfl rfl) ((SlR.xs h encI_ne).sub (List.nil_sublist _)) (lenI _) (onesI _) (by omega) (by decide) ?_
    rintro v7 S7 hS7
    refine w_asg rfl (by (conv => lhs; whnf); first | done | rfl) ?_
    refine w_nil ?_
    refine tq_n ?_
    refine c_ret ?_
    exact rq_r (ra_t (by (conv => lhs; whnf); first | done | rfl) .nil) (List.sublist_append_left _ _) ((by rw [List.nil_append, Nat.zero_add, flatI] at hS7; exact hS7))
theorem sub_skip2 {S S' R : Own} : R.Sublist (S ++ (S' ++ R)) := (List.sublist_append_right _ _).trans (List.sublist_append_right _ _)
theorem rep_len {n : Nat} {z : Value} {l : List Value} (h : l.length = n * 1) : (List.replicate (n : Int).toNat z).length = l.length := by simp [h]
set_option maxHeartbeats 2000000 in
theorem clone_g {v : Value} {t : Tb} (h : TabR w0 L v t) (hc : Cl t) : Gives Try.prog w0 L 58 [v] (fun v' L' => ∃ S, L' = S ++ L ∧ ∃ Sv Sp Sd Sh, S = Sv ++ (Sp ++ (Sd ++ Sh)) ∧ TW v' t Sv Sp Sd Sh) := by
  refine enterB (R := fun v' S => ∃ Sv Sp Sd Sh, S = Sv ++ (Sp ++ (Sd ++ Sh)) ∧ TW v' t Sv Sp Sd Sh) Try.func58 rfl Try.ntmps58 Try.results58 (Nat.le_of_ble_eq_true rfl) fun w hM => ?_
  have hT := h.at hM
  obtain ⟨vd, vh, vl, rfl, hd, hh, hlo⟩ := ((h).at hM).ex; obtain ⟨Ad, cd, rfl, hdc, hdl, hdA, hdR⟩ := id hd.ex; obtain ⟨Ah, ch, rfl, hhc, hhl, hhA, hhR⟩ := id hh.ex; obtain ⟨Al, cl, rfl, hlc, hll, hlA, hlR⟩ := LogR.opn hlo
  clear hM
  obtain ⟨hc1, hc2, hc3, hc4⟩ := hc
  refine c_seq ?_
  refine c_region ?_
  refine x_boxa rfl (by (conv => lhs; whnf); first | done | rfl) ?_
  intro b1
  refine x_al rfl ?_
  intro b2
  refine w_nil ?_
  refine tq_n ?_
  refine c_seq ?_
  refine c_region ?_
  refine x_ldao rfl (by (conv => lhs; whnf); first | done | rfl) (by first | exact HasC.out | exact PutC.out | repeat (first | exact .here | apply Has.there | apply Put.there | apply Has.app | apply Put.app)) rfl ?_
  refine x_al rfl ?_
  intro b3
  refine x_stw rfl (by (conv => lhs; whnf); first | done | rfl) (by (conv => lhs; whnf); first | done | rfl) rfl rfl (by first | exact HasC.out | exact PutC.out | repeat (first | exact .here | apply Has.there | apply Put.there | apply Has.app | apply Put.app)) rfl ?_
  refine w_nil ?_
  refine tq_n ?_
  refine c_mid_p [7, 8, 9, 10, 11, 12, 13, 14, 15, 16, 17] (fun s L => ∃ (x y : Nat), s = [] ∧ L = [(x, B 3 (List.replicate t.da.length (.int .i64 0))), (y, B 4 (List.replicate t.ha.length (.bool false))), (b3, B 43 [.int .i64 t.P, .int .i64 t.G, .int .i64 t.K, .slice (some ⟨x, 0, none⟩) t.da.length t.da.length, .slice (some ⟨y, 0, none⟩) t.ha.length t.ha.length, .int .i64 t.sp, .int .i64 t.sl, .int .i64 t.su, .slice none 0 0]), (b2, B 43 zT), (b1, B 43 (cT t Ad cd Ah ch Al cl))]) ?_ ?_
  · refine d_begin_s ((show List.Sublist [(b1, B 43 (cT t Ad cd Ah ch Al cl))] _ from (by first | exact SubL.out | repeat (first | exact List.Sublist.refl _ | exact List.nil_sublist _ | refine .cons_cons _ ?_ | refine .cons _ ?_ | refine List.Sublist.append (List.Sublist.refl _) ?_ | exact List.sublist_append_left _ _ | refine List.Sublist.trans ?_ (List.sublist_append_right _ _))))) [] mixed ?_
    refine d_tk0 0 (np_then np_ret) rfl (by kernel_rfl) (by kernel_rfl) (by kernel_rfl) (by kernel_rfl) (.inl (by first | exact SubL.out | repeat (first | exact List.Sublist.refl _ | exact List.nil_sublist _ | refine .cons_cons _ ?_ | refine .cons _ ?_ | refine List.Sublist.append (List.Sublist.refl _) ?_ | exact List.sublist_append_left _ _ | refine List.Sublist.trans ?_ (List.sublist_append_right _ _)))) ?_
    refine x_fa rfl (by (conv => lhs; whnf); first | done | rfl) ?_
    refine w_nil ⟨rfl, rfl, ?_⟩
    refine d_tk 1 (np_then np_ret) rfl (by kernel_rfl) (by kernel_rfl) (by kernel_rfl) (by kernel_rfl) (by kernel_rfl) (by first | exact SubL.out | repeat (first | exact List.Sublist.refl _ | exact List.nil_sublist _ | refine .cons_cons _ ?_ | refine .cons _ ?_ | refine List.Sublist.append (List.Sublist.refl _) ?_ | exact List.sublist_append_left _ _ | refine List.Sublist.trans ?_ (List.sublist_append_right _ _))) ?_
    refine x_ldo rfl (by (conv => lhs; whnf); first | done | rfl) (by first | exact HasC.out | exact PutC.out | repeat (first | exact .here | apply Has.there | apply Put.there | apply Has.app | apply Put.app)) (by (conv => lhs; whnf); first | done | rfl) ?_
    refine w_nil ⟨rfl, rfl, ?_⟩
    refine d_tk0 2 (np_then np_ret) rfl (by kernel_rfl) (by kernel_rfl) (by kernel_rfl) (by kernel_rfl) (.inl (by first | exact SubL.out | repeat (first | exact List.Sublist.refl _ | exact List.nil_sublist _ | refine .cons_cons _ ?_ | refine .cons _ ?_ | refine List.Sublist.append (List.Sublist.refl _) ?_ | exact List.sublist_append_left _ _ | refine List.Sublist.trans ?_ (List.sublist_append_right _ _)))) ?_
    refine x_len rfl (by (conv => lhs; whnf); first | done | rfl) ?_
    refine w_nil ⟨rfl, rfl, ?_⟩
    refine d_tk0 4 (np_then np_ret) rfl (by kernel_rfl) (by kernel_rfl) (by kernel_rfl) (by kernel_rfl) (.inl (by first | exact SubL.out | repeat (first | exact List.Sublist.refl _ | exact List.nil_sublist _ | refine .cons_cons _ ?_ | refine .cons _ ?_ | refine List.Sublist.append (List.Sublist.refl _) ?_ | exact List.sublist_append_left _ _ | refine List.Sublist.trans ?_ (List.sublist_append_right _ _)))) ?_
    refine x_fa rfl (by (conv => lhs; whnf); first | done | rfl) ?_
    refine w_nil ⟨rfl, rfl, ?_⟩
    refine d_tk 5 (np_then np_ret) rfl (by kernel_rfl) (by kernel_rfl) (by kernel_rfl) (by kernel_rfl) (by kernel_rfl) (by first | exact SubL.out | repeat (first | exact List.Sublist.refl _ | exact List.nil_sublist _ | refine .cons_cons _ ?_ | refine .cons _ ?_ | refine List.Sublist.append (List.Sublist.refl _) ?_ | exact List.sublist_append_left _ _ | refine List.Sublist.trans ?_ (List.sublist_append_right _ _))) ?_
    refine x_ldo rfl (by (conv => lhs; whnf); first | done | rfl) (by first | exact HasC.out | exact PutC.out | repeat (first | exact .here | apply Has.there | apply Put.there | apply Has.app | apply Put.app)) (by (conv => lhs; whnf); first | done | rfl) ?_
    refine w_nil ⟨rfl, rfl, ?_⟩
    refine d_tk0 6 (np_then np_ret) rfl (by kernel_rfl) (by kernel_rfl) (by kernel_rfl) (by kernel_rfl) (.inl (by first | exact SubL.out | repeat (first | exact List.Sublist.refl _ | exact List.nil_sublist _ | refine .cons_cons _ ?_ | refine .cons _ ?_ | refine List.Sublist.append (List.Sublist.refl _) ?_ | exact List.sublist_append_left _ _ | refine List.Sublist.trans ?_ (List.sublist_append_right _ _)))) ?_
    refine x_len rfl (by (conv => lhs; whnf); first | done | rfl) ?_
    refine w_nil ⟨rfl, rfl, ?_⟩
    refine d_two 3 7 rfl rfl (by kernel_rfl) ?_ ?_
    · refine x_mk rfl (by (conv => lhs; whnf); first | done | rfl) (by (conv => lhs; whnf); first | done | rfl) (by omega) (by omega) (by decide) ?_
      intro b10
      refine w_nil ⟨rfl, (.inl (by first | exact SubL.out | repeat (first | exact List.Sublist.refl _ | exact List.nil_sublist _ | refine .cons_cons _ ?_ | refine .cons _ ?_ | refine List.Sublist.append (List.Sublist.refl _) ?_ | exact List.sublist_append_left _ _ | refine List.Sublist.trans ?_ (List.sublist_append_right _ _)))), ?_⟩
      refine d_tk0 8 (np_then np_ret) rfl (by kernel_rfl) (by kernel_rfl) (by kernel_rfl) (by kernel_rfl) (.inl (by first | exact SubL.out | repeat (first | exact List.Sublist.refl _ | exact List.nil_sublist _ | refine .cons_cons _ ?_ | refine .cons _ ?_ | refine List.Sublist.append (List.Sublist.refl _) ?_ | exact List.sublist_append_left _ _ | refine List.Sublist.trans ?_ (List.sublist_append_right _ _)))) ?_
      refine x_fa rfl (by (conv => lhs; whnf); first | done | rfl) ?_
      refine w_nil ⟨rfl, rfl, ?_⟩
      refine d_two 7 9 rfl rfl (by kernel_rfl) ?_ ?_
      · refine x_mk rfl (by (conv => lhs; whnf); first | done | rfl) (by (conv => lhs; whnf); first | done | rfl) (by omega) (by omega) (by decide) ?_
        intro b14
        refine w_nil ⟨rfl, (.inl (by first | exact SubL.out | repeat (first | exact List.Sublist.refl _ | exact List.nil_sublist _ | refine .cons_cons _ ?_ | refine .cons _ ?_ | refine List.Sublist.append (List.Sublist.refl _) ?_ | exact List.sublist_append_left _ _ | refine List.Sublist.trans ?_ (List.sublist_append_right _ _)))), ?_⟩
        refine d_one 9 rfl (by kernel_rfl) ?_
        refine x_st1 rfl (by (conv => lhs; whnf); first | done | rfl) (by (conv => lhs; whnf); first | done | rfl) rfl (by first | exact HasC.out | exact PutC.out | repeat (first | exact .here | apply Has.there | apply Put.there | apply Has.app | apply Put.app)) rfl ?_
        refine w_nil ⟨rfl, (.inl (by first | exact SubL.out | repeat (first | exact List.Sublist.refl _ | exact List.nil_sublist _ | refine .cons_cons _ ?_ | refine .cons _ ?_ | refine List.Sublist.append (List.Sublist.refl _) ?_ | exact List.sublist_append_left _ _ | refine List.Sublist.trans ?_ (List.sublist_append_right _ _)))), ?_⟩
        refine d_tk0 10 (np_then np_ret) rfl (by kernel_rfl) (by kernel_rfl) (by kernel_rfl) (by kernel_rfl) (.inl (by first | exact SubL.out | repeat (first | exact List.Sublist.refl _ | exact List.nil_sublist _ | refine .cons_cons _ ?_ | refine .cons _ ?_ | refine List.Sublist.append (List.Sublist.refl _) ?_ | exact List.sublist_append_left _ _ | refine List.Sublist.trans ?_ (List.sublist_append_right _ _)))) ?_
        refine x_fa rfl (by (conv => lhs; whnf); first | done | rfl) ?_
        refine w_nil ⟨rfl, rfl, ?_⟩
        refine d_one 11 rfl (by kernel_rfl) ?_
        refine x_st1 rfl (by (conv => lhs; whnf); first | done | rfl) (by (conv => lhs; whnf); first | done | rfl) rfl (by first | exact HasC.out | exact PutC.out | repeat (first | exact .here | apply Has.there | apply Put.there | apply Has.app | apply Put.app)) rfl ?_
        refine w_nil ⟨rfl, (.inl (by first | exact SubL.out | repeat (first | exact List.Sublist.refl _ | exact List.nil_sublist _ | refine .cons_cons _ ?_ | refine .cons _ ?_ | refine List.Sublist.append (List.Sublist.refl _) ?_ | exact List.sublist_append_left _ _ | refine List.Sublist.trans ?_ (List.sublist_append_right _ _)))), ?_⟩
        refine d_tk0 12 (np_then np_ret) rfl (by kernel_rfl) (by kernel_rfl) (by kernel_rfl) (by kernel_rfl) (.inl (by first | exact SubL.out | repeat (first | exact List.Sublist.refl _ | exact List.nil_sublist _ | refine .cons_cons _ ?_ | refine .cons _ ?_ | refine List.Sublist.append (List.Sublist.refl _) ?_ | exact List.sublist_append_left _ _ | refine List.Sublist.trans ?_ (List.sublist_append_right _ _)))) ?_
        refine x_fa rfl (by (conv => lhs; whnf); first | done | rfl) ?_
        refine w_nil ⟨rfl, rfl, ?_⟩
        refine d_one 13 rfl (by kernel_rfl) ?_
        refine x_st1 rfl (by (conv => lhs; whnf); first | done | rfl) (by (conv => lhs; whnf); first | done | rfl) rfl (by first | exact HasC.out | exact PutC.out | repeat (first | exact .here | apply Has.there | apply Put.there | apply Has.app | apply Put.app)) rfl ?_
        refine w_nil ⟨rfl, (.inl (by first | exact SubL.out | repeat (first | exact List.Sublist.refl _ | exact List.nil_sublist _ | refine .cons_cons _ ?_ | refine .cons _ ?_ | refine List.Sublist.append (List.Sublist.refl _) ?_ | exact List.sublist_append_left _ _ | refine List.Sublist.trans ?_ (List.sublist_append_right _ _)))), ?_⟩
        refine d_done (by kernel_rfl) ?_
        refine tq_n ?_
        exact ⟨(by first | ((repeat (first | with_reducible exact Ag.refl | with_reducible exact Ag.ov | (with_reducible refine Ag.upd ?_ ?_; exact rfl) | with_reducible refine Ag.putn ?_ | (with_reducible refine Ag.ovs ?_ ?_; exact rfl))); done) | (repeat (first | exact Ag.refl | exact Ag.ov | (refine Ag.upd ?_ ?_; exact rfl) | refine Ag.putn ?_ | (refine Ag.ovs ?_ ?_; exact rfl)))), [], _, (by first | (refine ⟨_, List.Perm.refl _, ?_⟩; ((first | exact SubL.out | repeat (first | exact List.Sublist.refl _ | exact List.nil_sublist _ | refine .cons_cons _ ?_ | refine .cons _ ?_ | refine List.Sublist.append (List.Sublist.refl _) ?_ | exact List.sublist_append_left _ _ | refine List.Sublist.trans ?_ (List.sublist_append_right _ _)))); done) | (refine ⟨_, List.Perm.swap _ _ _, ?_⟩; ((first | exact SubL.out | repeat (first | exact List.Sublist.refl _ | exact List.nil_sublist _ | refine .cons_cons _ ?_ | refine .cons _ ?_ | refine List.Sublist.append (List.Sublist.refl _) ?_ | exact List.sublist_append_left _ _ | refine List.Sublist.trans ?_ (List.sublist_append_right _ _)))); done)), (by repeat (first | exact .nil | refine .cons rfl ?_)), ⟨_, _, rfl, rfl⟩⟩
      · refine x_st1 rfl (by (conv => lhs; whnf); first | done | rfl) (by (conv => lhs; whnf); first | done | rfl) rfl (by first | exact HasC.out | exact PutC.out | repeat (first | exact .here | apply Has.there | apply Put.there | apply Has.app | apply Put.app)) rfl ?_
        refine w_nil ⟨rfl, (.inl (by first | exact SubL.out | repeat (first | exact List.Sublist.refl _ | exact List.nil_sublist _ | refine .cons_cons _ ?_ | refine .cons _ ?_ | refine List.Sublist.append (List.Sublist.refl _) ?_ | exact List.sublist_append_left _ _ | refine List.Sublist.trans ?_ (List.sublist_append_right _ _)))), ?_⟩
        refine d_one 7 rfl (by kernel_rfl) ?_
        refine x_mk rfl (by (conv => lhs; whnf); first | done | rfl) (by (conv => lhs; whnf); first | done | rfl) (by omega) (by omega) (by decide) ?_
        intro b14
        refine w_nil ⟨rfl, (.inl (by first | exact SubL.out | repeat (first | exact List.Sublist.refl _ | exact List.nil_sublist _ | refine .cons_cons _ ?_ | refine .cons _ ?_ | refine List.Sublist.append (List.Sublist.refl _) ?_ | exact List.sublist_append_left _ _ | refine List.Sublist.trans ?_ (List.sublist_append_right _ _)))), ?_⟩
        refine d_tk0 10 (np_then np_ret) rfl (by kernel_rfl) (by kernel_rfl) (by kernel_rfl) (by kernel_rfl) (.inl (by first | exact SubL.out | repeat (first | exact List.Sublist.refl _ | exact List.nil_sublist _ | refine .cons_cons _ ?_ | refine .cons _ ?_ | refine List.Sublist.append (List.Sublist.refl _) ?_ | exact List.sublist_append_left _ _ | refine List.Sublist.trans ?_ (List.sublist_append_right _ _)))) ?_
        refine x_fa rfl (by (conv => lhs; whnf); first | done | rfl) ?_
        refine w_nil ⟨rfl, rfl, ?_⟩
        refine d_one 11 rfl (by kernel_rfl) ?_
        refine x_st1 rfl (by (conv => lhs; whnf); first | done | rfl) (by (conv => lhs; whnf); first | done | rfl) rfl (by first | exact HasC.out | exact PutC.out | repeat (first | exact .here | apply Has.there | apply Put.there | apply Has.app | apply Put.app)) rfl ?_
        refine w_nil ⟨rfl, (.inl (by first | exact SubL.out | repeat (first | exact List.Sublist.refl _ | exact List.nil_sublist _ | refine .cons_cons _ ?_ | refine .cons _ ?_ | refine List.Sublist.append (List.Sublist.refl _) ?_ | exact List.sublist_append_left _ _ | refine List.Sublist.trans ?_ (List.sublist_append_right _ _)))), ?_⟩
        refine d_tk0 12 (np_then np_ret) rfl (by kernel_rfl) (by kernel_rfl) (by kernel_rfl) (by kernel_rfl) (.inl (by first | exact SubL.out | repeat (first | exact List.Sublist.refl _ | exact List.nil_sublist _ | refine .cons_cons _ ?_ | refine .cons _ ?_ | refine List.Sublist.append (List.Sublist.refl _) ?_ | exact List.sublist_append_left _ _ | refine List.Sublist.trans ?_ (List.sublist_append_right _ _)))) ?_
        refine x_fa rfl (by (conv => lhs; whnf); first | done | rfl) ?_
        refine w_nil ⟨rfl, rfl, ?_⟩
        refine d_one 13 rfl (by kernel_rfl) ?_
        refine x_st1 rfl (by (conv => lhs; whnf); first | done | rfl) (by (conv => lhs; whnf); first | done | rfl) rfl (by first | exact HasC.out | exact PutC.out | repeat (first | exact .here | apply Has.there | apply Put.there | apply Has.app | apply Put.app)) rfl ?_
        refine w_nil ⟨rfl, (.inl (by first | exact SubL.out | repeat (first | exact List.Sublist.refl _ | exact List.nil_sublist _ | refine .cons_cons _ ?_ | refine .cons _ ?_ | refine List.Sublist.append (List.Sublist.refl _) ?_ | exact List.sublist_append_left _ _ | refine List.Sublist.trans ?_ (List.sublist_append_right _ _)))), ?_⟩
        refine d_done (by kernel_rfl) ?_
        refine tq_n ?_
        exact ⟨(by first | ((repeat (first | with_reducible exact Ag.refl | with_reducible exact Ag.ov | (with_reducible refine Ag.upd ?_ ?_; exact rfl) | with_reducible refine Ag.putn ?_ | (with_reducible refine Ag.ovs ?_ ?_; exact rfl))); done) | (repeat (first | exact Ag.refl | exact Ag.ov | (refine Ag.upd ?_ ?_; exact rfl) | refine Ag.putn ?_ | (refine Ag.ovs ?_ ?_; exact rfl)))), [], _, (by first | (refine ⟨_, List.Perm.refl _, ?_⟩; ((first | exact SubL.out | repeat (first | exact List.Sublist.refl _ | exact List.nil_sublist _ | refine .cons_cons _ ?_ | refine .cons _ ?_ | refine List.Sublist.append (List.Sublist.refl _) ?_ | exact List.sublist_append_left _ _ | refine List.Sublist.trans ?_ (List.sublist_append_right _ _)))); done) | (refine ⟨_, List.Perm.swap _ _ _, ?_⟩; ((first | exact SubL.out | repeat (first | exact List.Sublist.refl _ | exact List.nil_sublist _ | refine .cons_cons _ ?_ | refine .cons _ ?_ | refine List.Sublist.append (List.Sublist.refl _) ?_ | exact List.sublist_append_left _ _ | refine List.Sublist.trans ?_ (List.sublist_append_right _ _)))); done)), (by repeat (first | exact .nil | refine .cons rfl ?_)), ⟨_, _, rfl, rfl⟩⟩
    · refine x_mk rfl (by (conv => lhs; whnf); first | done | rfl) (by (conv => lhs; whnf); first | done | rfl) (by omega) (by omega) (by decide) ?_
      intro b14
      refine w_nil ⟨rfl, (.inl (by first | exact SubL.out | repeat (first | exact List.Sublist.refl _ | exact List.nil_sublist _ | refine .cons_cons _ ?_ | refine .cons _ ?_ | refine List.Sublist.append (List.Sublist.refl _) ?_ | exact List.sublist_append_left _ _ | refine List.Sublist.trans ?_ (List.sublist_append_right _ _)))), ?_⟩
      refine d_one 3 rfl (by kernel_rfl) ?_
      refine x_mk rfl (by (conv => lhs; whnf); first | done | rfl) (by (conv => lhs; whnf); first | done | rfl) (by omega) (by omega) (by decide) ?_
      intro b10
      refine w_nil ⟨rfl, (.inl (by first | exact SubL.out | repeat (first | exact List.Sublist.refl _ | exact List.nil_sublist _ | refine .cons_cons _ ?_ | refine .cons _ ?_ | refine List.Sublist.append (List.Sublist.refl _) ?_ | exact List.sublist_append_left _ _ | refine List.Sublist.trans ?_ (List.sublist_append_right _ _)))), ?_⟩
      refine d_tk0 8 (np_then np_ret) rfl (by kernel_rfl) (by kernel_rfl) (by kernel_rfl) (by kernel_rfl) (.inl (by first | exact SubL.out | repeat (first | exact List.Sublist.refl _ | exact List.nil_sublist _ | refine .cons_cons _ ?_ | refine .cons _ ?_ | refine List.Sublist.append (List.Sublist.refl _) ?_ | exact List.sublist_append_left _ _ | refine List.Sublist.trans ?_ (List.sublist_append_right _ _)))) ?_
      refine x_fa rfl (by (conv => lhs; whnf); first | done | rfl) ?_
      refine w_nil ⟨rfl, rfl, ?_⟩
      refine d_one 9 rfl (by kernel_rfl) ?_
      refine x_st1 rfl (by (conv => lhs; whnf); first | done | rfl) (by (conv => lhs; whnf); first | done | rfl) rfl (by first | exact HasC.out | exact PutC.out | repeat (first | exact .here | apply Has.there | apply Put.there | apply Has.app | apply Put.app)) rfl ?_
      refine w_nil ⟨rfl, (.inl (by first | exact SubL.out | repeat (first | exact List.Sublist.refl _ | exact List.nil_sublist _ | refine .cons_cons _ ?_ | refine .cons _ ?_ | refine List.Sublist.append (List.Sublist.refl _) ?_ | exact List.sublist_append_left _ _ | refine List.Sublist.trans ?_ (List.sublist_append_right _ _)))), ?_⟩
      refine d_tk0 10 (np_then np_ret) rfl (by kernel_rfl) (by kernel_rfl) (by kernel_rfl) (by kernel_rfl) (.inl (by first | exact SubL.out | repeat (first | exact List.Sublist.refl _ | exact List.nil_sublist _ | refine .cons_cons _ ?_ | refine .cons _ ?_ | refine List.Sublist.append (List.Sublist.refl _) ?_ | exact List.sublist_append_left _ _ | refine List.Sublist.trans ?_ (List.sublist_append_right _ _)))) ?_
      refine x_fa rfl (by (conv => lhs; whnf); first | done | rfl) ?_
      refine w_nil ⟨rfl, rfl, ?_⟩
      refine d_one 11 rfl (by kernel_rfl) ?_
      refine x_st1 rfl (by (conv => lhs; whnf); first | done | rfl) (by (conv => lhs; whnf); first | done | rfl) rfl (by first | exact HasC.out | exact PutC.out | repeat (first | exact .here | apply Has.there | apply Put.there | apply Has.app | apply Put.app)) rfl ?_
      refine w_nil ⟨rfl, (.inl (by first | exact SubL.out | repeat (first | exact List.Sublist.refl _ | exact List.nil_sublist _ | refine .cons_cons _ ?_ | refine .cons _ ?_ | refine List.Sublist.append (List.Sublist.refl _) ?_ | exact List.sublist_append_left _ _ | refine List.Sublist.trans ?_ (List.sublist_append_right _ _)))), ?_⟩
      refine d_tk0 12 (np_then np_ret) rfl (by kernel_rfl) (by kernel_rfl) (by kernel_rfl) (by kernel_rfl) (.inl (by first | exact SubL.out | repeat (first | exact List.Sublist.refl _ | exact List.nil_sublist _ | refine .cons_cons _ ?_ | refine .cons _ ?_ | refine List.Sublist.append (List.Sublist.refl _) ?_ | exact List.sublist_append_left _ _ | refine List.Sublist.trans ?_ (List.sublist_append_right _ _)))) ?_
      refine x_fa rfl (by (conv => lhs; whnf); first | done | rfl) ?_
      refine w_nil ⟨rfl, rfl, ?_⟩
      refine d_one 13 rfl (by kernel_rfl) ?_
      refine x_st1 rfl (by (conv => lhs; whnf); first | done | rfl) (by (conv => lhs; whnf); first | done | rfl) rfl (by first | exact HasC.out | exact PutC.out | repeat (first | exact .here | apply Has.there | apply Put.there | apply Has.app | apply Put.app)) rfl ?_
      refine w_nil ⟨rfl, (.inl (by first | exact SubL.out | repeat (first | exact List.Sublist.refl _ | exact List.nil_sublist _ | refine .cons_cons _ ?_ | refine .cons _ ?_ | refine List.Sublist.append (List.Sublist.refl _) ?_ | exact List.sublist_append_left _ _ | refine List.Sublist.trans ?_ (List.sublist_append_right _ _)))), ?_⟩
      refine d_done (by kernel_rfl) ?_
      refine tq_n ?_
      exact ⟨(by first | ((repeat (first | with_reducible exact Ag.refl | with_reducible exact Ag.ov | (with_reducible refine Ag.upd ?_ ?_; exact rfl) | with_reducible refine Ag.putn ?_ | (with_reducible refine Ag.ovs ?_ ?_; exact rfl))); done) | (repeat (first | exact Ag.refl | exact Ag.ov | (refine Ag.upd ?_ ?_; exact rfl) | refine Ag.putn ?_ | (refine Ag.ovs ?_ ?_; exact rfl)))), [], _, (by first | (refine ⟨_, List.Perm.refl _, ?_⟩; ((first | exact SubL.out | repeat (first | exact List.Sublist.refl _ | exact List.nil_sublist _ | refine .cons_cons _ ?_ | refine .cons _ ?_ | refine List.Sublist.append (List.Sublist.refl _) ?_ | exact List.sublist_append_left _ _ | refine List.Sublist.trans ?_ (List.sublist_append_right _ _)))); done) | (refine ⟨_, List.Perm.swap _ _ _, ?_⟩; ((first | exact SubL.out | repeat (first | exact List.Sublist.refl _ | exact List.nil_sublist _ | refine .cons_cons _ ?_ | refine .cons _ ?_ | refine List.Sublist.append (List.Sublist.refl _) ?_ | exact List.sublist_append_left _ _ | refine List.Sublist.trans ?_ (List.sublist_append_right _ _)))); done)), (by repeat (first | exact .nil | refine .cons rfl ?_)), ⟨_, _, rfl, rfl⟩⟩
  · rintro sM LM gM ⟨b10, b14, rfl, rfl⟩
    refine c_seq ?_
    refine c_region ?_
    refine x_fa rfl (by (conv => lhs; whnf); first | done | rfl) ?_
    refine x_ldo rfl (by (conv => lhs; whnf); first | done | rfl) (by first | exact HasC.out | exact PutC.out | repeat (first | exact .here | apply Has.there | apply Put.there | apply Has.app | apply Put.app)) (by (conv => lhs; whnf); first | done | rfl) ?_
    refine x_fa rfl (by (conv => lhs; whnf); first | done | rfl) ?_
    refine x_ldo rfl (by (conv => lhs; whnf); first | done | rfl) (by first | exact HasC.out | exact PutC.out | repeat (first | exact .here | apply Has.there | apply Put.there | apply Has.app | apply Put.app)) (by (conv => lhs; whnf); first | done | rfl) ?_
    refine x_cpf rfl (by (conv => lhs; whnf); first | done | rfl) (by (conv => lhs; whnf); first | done | rfl) ((SlR.xs hd encI_ne).sub (List.nil_sublist _)) (lenI _) (onesI _) ((by first | exact HasC.out | exact PutC.out | repeat (first | exact .here | apply Has.there | apply Put.there | apply Has.app | apply Put.app))) (by omega) (by simp [flatI]) ?_
    refine w_nil ?_
    refine tq_n ?_
    refine c_seq ?_
    refine c_region ?_
    refine x_fa rfl (by (conv => lhs; whnf); first | done | rfl) ?_
    refine x_ldo rfl (by (conv => lhs; whnf); first | done | rfl) (by first | exact HasC.out | exact PutC.out | repeat (first | exact .here | apply Has.there | apply Put.there | apply Has.app | apply Put.app)) (by (conv => lhs; whnf); first | done | rfl) ?_
    refine x_fa rfl (by (conv => lhs; whnf); first | done | rfl) ?_
    refine x_ldo rfl (by (conv => lhs; whnf); first | done | rfl) (by first | exact HasC.out | exact PutC.out | repeat (first | exact .here | apply Has.there | apply Put.there | apply Has.app | apply Put.app)) (by (conv => lhs; whnf); first | done | rfl) ?_
    refine x_cpf rfl (by (conv => lhs; whnf); first | done | rfl) (by (conv => lhs; whnf); first | done | rfl) ((SlR.xs hh encB_ne).sub (List.nil_sublist _)) (lenB _) (onesB _) ((by first | exact HasC.out | exact PutC.out | repeat (first | exact .here | apply Has.there | apply Put.there | apply Has.app | apply Put.app))) (by omega) (by simp [flatB]) ?_
    refine w_nil ?_
    refine tq_n ?_
    refine c_seq ?_
    refine c_seq ?_
    refine c_region ?_
    refine x_fa rfl (by (conv => lhs; whnf); first | done | rfl) ?_
    refine x_ldo rfl (by (conv => lhs; whnf); first | done | rfl) (by first | exact HasC.out | exact PutC.out | repeat (first | exact .here | apply Has.there | apply Put.there | apply Has.app | apply Put.app)) (by (conv => lhs; whnf); first | done | rfl) ?_
    refine x_len rfl (by (conv => lhs; whnf); first | done | rfl) ?_
    refine w_mov rfl (by (conv => lhs; whnf); first | done | rfl) ?_
    refine w_nil ?_
    refine tq_n ?_
    refine c_block ?_
    refine c_loop_ov [32, 33, 34, 5, 35, 36, 37, 38, 39, 40, 41, 42, 43, 44, 45, 46, 31] (fun m s L => ∃ (k : Nat) (lv : List (Int × Value)) (vl : Value) (Sv Sp : Own), k ≤ t.lo.length ∧ LW lv (t.lo.take k) Sp ∧ OSl 102 2 vl (lv.flatMap encL) k Sv ∧ m = t.lo.length - k ∧ s = [(31, .int .i64 k)] ∧ L = Sv ++ (Sp ++ [(b10, B 3 (t.da.flatMap Sl.encI)), (b14, B 4 (t.ha.flatMap Sl.encB)), (b3, B 43 [.int .i64 t.P, .int .i64 t.G, .int .i64 t.K, .slice (some ⟨b10, 0, none⟩) t.da.length t.da.length, .slice (some ⟨b14, 0, none⟩) t.ha.length t.ha.length, .int .i64 t.sp, .int .i64 t.sl, .int .i64 t.su, vl]), (b2, B 43 zT), (b1, B 43 (cT t Ad cd Ah ch Al cl))])) (t.lo.length) [(31, .int .i64 (0 : Nat))] (by repeat (first | exact .nil | refine .cons rfl ?_)) (by first | exact SubL.out | repeat (first | exact List.Sublist.refl _ | exact List.nil_sublist _ | refine .cons_cons _ ?_ | refine .cons _ ?_ | refine List.Sublist.append (List.Sublist.refl _) ?_ | exact List.sublist_append_left _ _ | refine List.Sublist.trans ?_ (List.sublist_append_right _ _))) (⟨0, [], _, [], [], by omega, .nil, .nil, by omega, rfl, rfl⟩) ?_
    rintro mI sI LI gL0 ⟨k, lv, vl, Sv, Sp, hk, hLW, hSv, rfl, rfl, rfl⟩
    refine c_seq ?_
    refine c_region ?_
    refine w_lss rfl (by (conv => lhs; whnf); first | done | rfl) (by (conv => lhs; whnf); first | done | rfl) ?_
    refine w_nil ?_
    refine tq_n ?_
    refine c_seq ?_
    refine c_cond_d (by (conv => lhs; whnf); first | done | rfl) (fun hc32 => ?_) (fun hc32 => ?_)
    · have hlt : k < t.lo.length := by omega
      obtain ⟨Ap, cp, hpc, hpl, hpA, hpR, hpI, hph, hpv⟩ := hlR k _ (getN hlt)
      refine c_skip ?_
      refine tq_n ?_
      refine c_seq ?_
      refine c_block ?_
      refine c_seq ?_
      refine c_region ?_
      refine x_ixA rfl (by (conv => lhs; whnf); first | done | rfl) (by (conv => lhs; whnf); first | done | rfl) (hlA (ne_of_lt hlt)) (by omega) (by omega) ?_
      refine x_lda (vs := [.int .i64 (t.lo[k]'hlt).ph, .slice Ap (t.lo[k]'hlt).pg.length cp]) rfl (by (conv => lhs; whnf); first | done | rfl) (rfl) (rd2 hph hpv) ?_
      refine x_al rfl ?_
      intro b5
      refine x_stw rfl (by (conv => lhs; whnf); first | done | rfl) (by (conv => lhs; whnf); first | done | rfl) rfl rfl (by first | exact HasC.out | exact PutC.out | repeat (first | exact .here | apply Has.there | apply Put.there | apply Has.app | apply Put.app)) rfl ?_
      refine w_nil ?_
      refine tq_n ?_
      refine d_begin_s ((.cons_cons _ sub_skip2)) [11] mixed ?_
      refine d_tk0 0 (np_blk (np_then (np_then (np_blk (np_then np_ret))))) rfl (by kernel_rfl) (by kernel_rfl) (by kernel_rfl) (by kernel_rfl) (.inl (by first | exact SubL.out | repeat (first | exact List.Sublist.refl _ | exact List.nil_sublist _ | refine .cons_cons _ ?_ | refine .cons _ ?_ | refine List.Sublist.append (List.Sublist.refl _) ?_ | exact List.sublist_append_left _ _ | refine List.Sublist.trans ?_ (List.sublist_append_right _ _)))) ?_
      refine x_fa rfl (by (conv => lhs; whnf); first | done | rfl) ?_
      refine w_nil ⟨rfl, rfl, ?_⟩
      refine d_tk 1 (np_blk (np_then (np_then (np_blk (np_then np_ret))))) rfl (by kernel_rfl) (by kernel_rfl) (by kernel_rfl) (by kernel_rfl) (by kernel_rfl) (by first | exact SubL.out | repeat (first | exact List.Sublist.refl _ | exact List.nil_sublist _ | refine .cons_cons _ ?_ | refine .cons _ ?_ | refine List.Sublist.append (List.Sublist.refl _) ?_ | exact List.sublist_append_left _ _ | refine List.Sublist.trans ?_ (List.sublist_append_right _ _))) ?_
      refine x_ldo rfl (by (conv => lhs; whnf); first | done | rfl) (by first | exact HasC.out | exact PutC.out | repeat (first | exact .here | apply Has.there | apply Put.there | apply Has.app | apply Put.app)) (by (conv => lhs; whnf); first | done | rfl) ?_
      refine w_nil ⟨rfl, rfl, ?_⟩
      refine d_tk0 2 (np_blk (np_then (np_then (np_blk (np_then np_ret))))) rfl (by kernel_rfl) (by kernel_rfl) (by kernel_rfl) (by kernel_rfl) (.inl (by first | exact SubL.out | repeat (first | exact List.Sublist.refl _ | exact List.nil_sublist _ | refine .cons_cons _ ?_ | refine .cons _ ?_ | refine List.Sublist.append (List.Sublist.refl _) ?_ | exact List.sublist_append_left _ _ | refine List.Sublist.trans ?_ (List.sublist_append_right _ _)))) ?_
      refine x_fa rfl (by (conv => lhs; whnf); first | done | rfl) ?_
      refine w_nil ⟨rfl, rfl, ?_⟩
      refine d_tk 3 (np_blk (np_then (np_then (np_blk (np_then np_ret))))) rfl (by kernel_rfl) (by kernel_rfl) (by kernel_rfl) (by kernel_rfl) (by kernel_rfl) (by first | exact SubL.out | repeat (first | exact List.Sublist.refl _ | exact List.nil_sublist _ | refine .cons_cons _ ?_ | refine .cons _ ?_ | refine List.Sublist.append (List.Sublist.refl _) ?_ | exact List.sublist_append_left _ _ | refine List.Sublist.trans ?_ (List.sublist_append_right _ _))) ?_
      refine x_ldo rfl (by (conv => lhs; whnf); first | done | rfl) (by first | exact HasC.out | exact PutC.out | repeat (first | exact .here | apply Has.there | apply Put.there | apply Has.app | apply Put.app)) (by (conv => lhs; whnf); first | done | rfl) ?_
      refine w_nil ⟨rfl, rfl, ?_⟩
      refine d_tk0 4 (np_blk (np_then (np_then (np_blk (np_then np_ret))))) rfl (by kernel_rfl) (by kernel_rfl) (by kernel_rfl) (by kernel_rfl) (.inl (by first | exact SubL.out | repeat (first | exact List.Sublist.refl _ | exact List.nil_sublist _ | refine .cons_cons _ ?_ | refine .cons _ ?_ | refine List.Sublist.append (List.Sublist.refl _) ?_ | exact List.sublist_append_left _ _ | refine List.Sublist.trans ?_ (List.sublist_append_right _ _)))) ?_
      refine x_fa rfl (by (conv => lhs; whnf); first | done | rfl) ?_
      refine w_nil ⟨rfl, rfl, ?_⟩
      refine d_tk 5 (np_blk (np_then (np_then (np_blk (np_then np_ret))))) rfl (by kernel_rfl) (by kernel_rfl) (by kernel_rfl) (by kernel_rfl) (by kernel_rfl) (by first | exact SubL.out | repeat (first | exact List.Sublist.refl _ | exact List.nil_sublist _ | refine .cons_cons _ ?_ | refine .cons _ ?_ | refine List.Sublist.append (List.Sublist.refl _) ?_ | exact List.sublist_append_left _ _ | refine List.Sublist.trans ?_ (List.sublist_append_right _ _))) ?_
      refine x_ldo rfl (by (conv => lhs; whnf); first | done | rfl) (by first | exact HasC.out | exact PutC.out | repeat (first | exact .here | apply Has.there | apply Put.there | apply Has.app | apply Put.app)) (by (conv => lhs; whnf); first | done | rfl) ?_
      refine w_nil ⟨rfl, rfl, ?_⟩
      refine d_one 6 rfl (by kernel_rfl) ?_
      refine x_call (sclone_g (hpI.sub (List.nil_sublist _)) (hc4 _ (List.getElem_mem hlt))) rfl rfl rfl ?_
      rintro _ _ ⟨S105, rfl, hS105⟩
      obtain ⟨A41, c41, rfl, hc41⟩ := hS105.form
      refine w_nil ⟨rfl, (.inl (by first | exact SubL.out | repeat (first | exact List.Sublist.refl _ | exact List.nil_sublist _ | refine .cons_cons _ ?_ | refine .cons _ ?_ | refine List.Sublist.append (List.Sublist.refl _) ?_ | exact List.sublist_append_left _ _ | refine List.Sublist.trans ?_ (List.sublist_append_right _ _)))), ?_⟩
      refine d_tk0 7 (np_blk (np_then (np_then (np_blk (np_then np_ret))))) rfl (by kernel_rfl) (by kernel_rfl) (by kernel_rfl) (by kernel_rfl) (.inl (by first | exact SubL.out | repeat (first | exact List.Sublist.refl _ | exact List.nil_sublist _ | refine .cons_cons _ ?_ | refine .cons _ ?_ | refine List.Sublist.append (List.Sublist.refl _) ?_ | exact List.sublist_append_left _ _ | refine List.Sublist.trans ?_ (List.sublist_append_right _ _)))) ?_
      refine x_bld rfl (.cons (by (conv => lhs; whnf); first | done | rfl) (.cons (by (conv => lhs; whnf); first | done | rfl) .nil)) rfl ?_
      refine w_nil ⟨rfl, rfl, ?_⟩
      refine d_one 8 rfl (by kernel_rfl) ?_
      refine x_bs1 rfl (by (conv => lhs; whnf); first | done | rfl) rfl rfl rfl rfl ?_
      intro b43
      refine w_nil ⟨rfl, (.inl (by first | exact SubL.out | repeat (first | exact List.Sublist.refl _ | exact List.nil_sublist _ | refine .cons_cons _ ?_ | refine .cons _ ?_ | refine List.Sublist.append (List.Sublist.refl _) ?_ | exact List.sublist_append_left _ _ | refine List.Sublist.trans ?_ (List.sublist_append_right _ _)))), ?_⟩
      refine d_one 9 rfl (by kernel_rfl) ?_
      refine x_app rfl (by (conv => lhs; whnf); first | done | rfl) (by (conv => lhs; whnf); first | done | rfl) (perm3) (hSv) (xs_new (by first | exact HasC.out | exact PutC.out | repeat (first | exact .here | apply Has.there | apply Put.there | apply Has.app | apply Put.app))) (rfl) (rfl) (by omega) (by decide) ?_
      rintro vl2 Sv2 hSv2
      refine w_nil ⟨rfl, (.inl (by first | exact SubL.out | repeat (first | exact List.Sublist.refl _ | exact List.nil_sublist _ | refine .cons_cons _ ?_ | refine .cons _ ?_ | refine List.Sublist.append (List.Sublist.refl _) ?_ | exact List.sublist_append_left _ _ | refine List.Sublist.trans ?_ (List.sublist_append_right _ _)))), ?_⟩
      refine d_tk0 10 (np_blk (np_then (np_then (np_blk (np_then np_ret))))) rfl (by kernel_rfl) (by kernel_rfl) (by kernel_rfl) (by kernel_rfl) (.inl (by first | exact SubL.out | repeat (first | exact List.Sublist.refl _ | exact List.nil_sublist _ | refine .cons_cons _ ?_ | refine .cons _ ?_ | refine List.Sublist.append (List.Sublist.refl _) ?_ | exact List.sublist_append_left _ _ | refine List.Sublist.trans ?_ (List.sublist_append_right _ _)))) ?_
      refine x_fa rfl (by (conv => lhs; whnf); first | done | rfl) ?_
      refine w_nil ⟨rfl, rfl, ?_⟩
      refine d_one 11 rfl (by kernel_rfl) ?_
      refine x_st1 rfl (by (conv => lhs; whnf); first | done | rfl) (by (conv => lhs; whnf); first | done | rfl) (hSv2.one) (by first | exact HasC.out | exact PutC.out | repeat (first | exact .here | apply Has.there | apply Put.there | apply Has.app | apply Put.app)) rfl ?_
      refine w_nil ⟨rfl, (.inr (by kernel_rfl)), ?_⟩
      refine d_done (by kernel_rfl) ?_
      refine bq_n ?_
      refine tq_n ?_
      refine c_region ?_
      refine w_add rfl (by (conv => lhs; whnf); first | done | rfl) (by (conv => lhs; whnf); first | done | rfl) (by omega) ?_
      refine w_mov rfl (by (conv => lhs; whnf); first | done | rfl) ?_
      refine w_nil ?_
      refine tq_n ?_
      exact ⟨(by first | ((repeat (first | with_reducible exact Ag.refl | with_reducible exact Ag.ov | (with_reducible refine Ag.upd ?_ ?_; exact rfl) | with_reducible refine Ag.putn ?_ | (with_reducible refine Ag.ovs ?_ ?_; exact rfl))); done) | (repeat (first | exact Ag.refl | exact Ag.ov | (refine Ag.upd ?_ ?_; exact rfl) | refine Ag.putn ?_ | (refine Ag.ovs ?_ ?_; exact rfl)))), t.lo.length - (k + 1), [(31, .int .i64 ((k + 1 : Nat) : Int))], _, by omega, (by rw [List.append_assoc]; exact (by first | exact SubL.out | repeat (first | exact List.Sublist.refl _ | exact List.nil_sublist _ | refine .cons_cons _ ?_ | refine .cons _ ?_ | refine List.Sublist.append (List.Sublist.refl _) ?_ | exact List.sublist_append_left _ _ | refine List.Sublist.trans ?_ (List.sublist_append_right _ _)))), (by repeat (first | exact .nil | refine .cons rfl ?_)), ⟨k + 1, lv ++ [((t.lo[k]'hlt).ph, .slice A41 _ c41)], vl2, Sv2, S105 ++ Sp, by omega, by rw [take_succ' hlt]; exact .snoc hLW hS105 hpl, by rw [List.flatMap_append]; exact hSv2, rfl, rfl, rfl⟩⟩
    · have hkk : k = t.lo.length := (by omega)
      subst hkk
      rw [List.take_length] at hLW
      obtain ⟨Av, cv, rfl, hcv⟩ := hSv.form
      refine c_exit ?_
      refine tq_e ?_
      refine tq_e ?_
      refine bq_e ?_
      refine tq_n ?_
      refine c_seq ?_
      refine c_region ?_
      refine x_ldao rfl (by (conv => lhs; whnf); first | done | rfl) (by first | exact HasC.out | exact PutC.out | repeat (first | exact .here | apply Has.there | apply Put.there | apply Has.app | apply Put.app)) rfl ?_
      refine x_stw rfl (by (conv => lhs; whnf); first | done | rfl) (by (conv => lhs; whnf); first | done | rfl) rfl rfl (by first | exact HasC.out | exact PutC.out | repeat (first | exact .here | apply Has.there | apply Put.there | apply Has.app | apply Put.app)) rfl ?_
      refine w_nil ?_
      refine tq_n ?_
      refine c_ret ?_
      exact rq_r (ra_c (by (conv => lhs; whnf); first | done | rfl) (by first | exact HasC.out | exact PutC.out | repeat (first | exact .here | apply Has.there | apply Put.there | apply Has.app | apply Put.app)) rfl .nil) (by first | exact SubL.out | repeat (first | exact List.Sublist.refl _ | exact List.nil_sublist _ | refine .cons_cons _ ?_ | refine .cons _ ?_ | refine List.Sublist.append (List.Sublist.refl _) ?_ | exact List.sublist_append_left _ _ | refine List.Sublist.trans ?_ (List.sublist_append_right _ _))) (⟨Sv, Sp, [(b10, _)], [(b14, _)], rfl, _, _, _, lv, rfl, osl_full rfl (by simp [flatI]), osl_full rfl (by simp [flatB]), hSv, hLW⟩)
end
end Go.Proofs.Ytnmhhelcaibdoaa.Pl
