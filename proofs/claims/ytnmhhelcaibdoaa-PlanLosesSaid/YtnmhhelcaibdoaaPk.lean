/- The steps that are no merge: Put, Skip, Open, Dropped; walked in plan. -/
import Derived.Test.YtnmhhelcaibdoaaPj
namespace Go.Proofs.Ytnmhhelcaibdoaa.Pl
open Go Go.RowKit Sl
set_option linter.unusedVariables false
set_option linter.unusedSimpArgs false
def addLast (lo : List Lg) (p : Int) : List Lg := match lo.getLast? with
  | some l => lo.dropLast ++ [⟨l.ph, l.pg ++ [p]⟩]
  | none => []
def isP (q : Int) : Int → Bool := fun p => decide (p = q)
/-- The last log's number. -/
def lastPh (t : Tb) : Int := match t.lo.getLast? with
  | some l => l.ph
  | none => 0
def fgT (t : Tb) (q : Int) : Tb := { t with lo := fgt (isP q) t.lo }
abbrev putSq (t : Tb) (k p : Int) : Prop := ((k = 1 ∧ 0 ≤ t.sp) ∧ t.sl = p / t.P) ∧ t.su = p % t.P
noncomputable def putA (t : Tb) (k p : Int) : Sum Int (Tb × Int × Int) :=
  if putSq t k p then .inr ({ fgT t p with su := t.su + 1 }, t.sp, t.su)
  else if k = 2 ∧ room t then .inr ({ fgT t p with lo := addLast (fgT t p).lo p }, lastPh t, lastN t)
  else .inl 51
noncomputable def put (t : Tb) (k p : Int) : Sum Int (Tb × Int × Int) := if May t then (if inB t p then putA t k p else .inl 1) else .inl 50
def PutR (x : Sum Int (Tb × Int × Int)) (v : Value) (S : Own) : Prop := match x with
  | .inl e => v = .tuple #[.agg zT.toArray, .agg #[.int .i64 0, .int .i64 0], .int .i64 e]
  | .inr (t, a, b) => ∃ tv, v = .tuple #[tv, .agg #[.int .i64 a, .int .i64 b], .int .i64 0] ∧ TabO S tv t
noncomputable def skip (t : Tb) (k : Int) : Sum Int Tb := if May t then (if k = 2 ∧ room t then .inr { t with lo := addLast t.lo (-1) } else .inl 51) else .inl 50
abbrev opnSq (t : Tb) (k b : Int) : Prop := (k = 3 ∧ t.sp < 0) ∧ 0 ≤ b ∧ b ≤ t.G - 1
abbrev opnRd (t : Tb) (k : Int) : Prop := (k = 4 ∧ (t.lo.length : Int) < t.K) ∧ ¬ room t
noncomputable def opnA (t : Tb) (k b x : Int) : Sum Int Tb :=
  if opnSq t k b then .inr { t with sp := x, sl := b, su := 0 }
  else if opnRd t k then .inr { t with lo := t.lo ++ [⟨x, []⟩] }
  else .inl 51
noncomputable def opn (t : Tb) (k b x : Int) : Sum Int Tb := if May t then (if frsh t x then opnA t k b x else .inl 1) else .inl 50
def OpR (x : Sum Int Tb) (v : Value) (S : Own) : Prop := match x with
  | .inl e => v = .tuple #[.agg zT.toArray, .int .i64 e]
  | .inr t => ∃ tv, v = .tuple #[tv, .int .i64 0] ∧ TabO S tv t
def hdPg (t : Tb) : List Int := (t.lo.headD ⟨0, []⟩).pg
def isN : Int → Bool := fun p => decide (0 ≤ p)
abbrev noDrop (t : Tb) : Prop := t.lo.length = 0 ∨ (hdPg t).any isN = true
noncomputable def drop1 (t : Tb) : Sum Int (Tb × Int) := if May t then (if noDrop t then .inl 51 else .inr ({ t with lo := t.lo.tail }, (t.lo.headD ⟨0, []⟩).ph)) else .inl 50
def DrR (x : Sum Int (Tb × Int)) (v : Value) (S : Own) : Prop := match x with
  | .inl e => v = .tuple #[.agg zT.toArray, .int .i64 0, .int .i64 e]
  | .inr (t, k) => ∃ tv, v = .tuple #[tv, .int .i64 k, .int .i64 0] ∧ TabO S tv t

theorem fgt_len {φ : Int → Bool} {lo : List Lg} : (fgt φ lo).length = lo.length := by simp [fgt]
theorem fgt_cl {φ : Int → Bool} {t : Tb} (h : Cl t) : Cl { t with lo := fgt φ t.lo } := by
  refine ⟨h.1, h.2.1, by rw [fgt_len]; exact h.2.2.1, fun l hl => ?_⟩
  simp only [fgt, List.mem_map] at hl
  obtain ⟨l', h1, rfl⟩ := hl
  simpa using h.2.2.2 l' h1
theorem lastN_fgt {φ : Int → Bool} {t : Tb} : lastN { t with lo := fgt φ t.lo } = lastN t := by
  unfold lastN
  by_cases h : 0 < t.lo.length
  · rw [dif_pos (by rw [fgt_len]; exact h), dif_pos h]
    simp [fgt]
  · rw [dif_neg (by rw [fgt_len]; exact h), dif_neg h]
theorem room_fgt {φ : Int → Bool} {t : Tb} : room { t with lo := fgt φ t.lo } ↔ room t := by
  unfold room
  rw [lastN_fgt]
  show 0 < (fgt φ t.lo).length ∧ _ ↔ _
  rw [fgt_len]
/-- The last log, taken off. -/
theorem LW.last {lv : List (Int × Value)} {lo : List Lg} {S : Own} (h : LW lv lo S) (hn : 0 < lo.length) : ∃ lv' lo' ph pv pg S' S1, lv = lv' ++ [(ph, pv)] ∧ lo = lo' ++ [⟨ph, pg⟩] ∧ S = S1 ++ S' ∧ LW lv' lo' S' ∧ OSl 3 1 pv (pg.map (Value.int .i64)) pg.length S1 ∧ pg.length ≤ 1152921504606846976 := by
  cases h with
  | nil => exact absurd hn (by decide)
  | snoc h h1 hb => exact ⟨_, _, _, _, _, _, _, rfl, rfl, rfl, h, h1, hb⟩
theorem addLast_snoc {lo : List Lg} {ph p : Int} {pg : List Int} : addLast (lo ++ [⟨ph, pg⟩]) p = lo ++ [⟨ph, pg ++ [p]⟩] := by simp [addLast]
/-- One log's pages in the logs' array replaced. -/
theorem logs_set {vl v : Value} {lv : List (Int × Value)} {ph : Int} {pv : Value} {n : Nat} {Sv : Own} (h : OSl 102 2 vl ((lv ++ [(ph, pv)]).flatMap encL) n Sv) {A : Option Addr} {c : Nat} (hA : vl = .slice A n c) : ∃ cs Sv', Put Sv (bk A) (B 102 cs) (B 102 (cs.set (of_ A + lv.length * 2 + 1) v)) Sv' ∧ of_ A + lv.length * 2 + 1 < cs.length ∧ OSl 102 2 vl ((lv ++ [(ph, v)]).flatMap encL) n Sv' := by
  have hlen : ∀ (lv : List (Int × Value)), (lv.flatMap encL).length = lv.length * 2 := fun lv => by
    induction lv with
    | nil => rfl
    | cons a l ih => rw [List.flatMap_cons, List.length_append, ih]; simp [encL]; omega
  generalize hcs : (lv ++ [(ph, pv)]).flatMap encL = cs at h
  cases h with
  | nil => rw [List.flatMap_append] at hcs; exact absurd (congrArg List.length hcs) (by simp [encL])
  | @own b _ sp _ cap hl1 hc hsp =>
    cases hA
    refine ⟨cs ++ sp, [(b, B 102 ((lv ++ [(ph, v)]).flatMap encL ++ sp))], ?_, ?_, ?_⟩
    · have e : (cs ++ sp).set (of_ (some (⟨b, 0, none⟩ : Addr)) + lv.length * 2 + 1) v = (lv ++ [(ph, v)]).flatMap encL ++ sp := by
        rw [show of_ (some (⟨b, 0, none⟩ : Addr)) + lv.length * 2 + 1 = (lv.flatMap encL).length + 1 by rw [hlen]; simp [of_], ← hcs, List.flatMap_append, List.flatMap_append, List.append_assoc, List.append_assoc, List.set_append_right _ _ (by omega)]
        simp [encL]
      rw [e]; exact .here
    · rw [show of_ (some (⟨b, 0, none⟩ : Addr)) + lv.length * 2 + 1 = lv.length * 2 + 1 by simp [of_], ← hcs, List.length_append, hlen]; simp; omega
    · refine .own ?_ hc hsp
      rw [hlen]; rw [← hcs, hlen] at hl1; simpa using hl1
theorem perm4' {a : Nat × Obj} {Sv S1 X : Own} : (a :: (Sv ++ (S1 ++ X))).Perm (S1 ++ (a :: (Sv ++ X))) := by
  refine (List.Perm.cons a ?_).trans List.perm_middle.symm
  rw [← List.append_assoc, ← List.append_assoc]
  exact List.Perm.append_right _ List.perm_append_comm
section
variable {w0 : World} {L : Own}
theorem put1_g {b : Nat} {x q : Int} (hb : Rd w0 L ⟨b, 0, none⟩ (.int .i64 q)) : Gives Try.prog w0 L 63 [.int .i64 x, .pointer (some ⟨b, 0, none⟩)] (fun v' L' => v' = .bool (decide (isP q x = true)) ∧ L' = L) := by
  refine enterP Try.func63 rfl Try.ntmps63 Try.results63 (Nat.le_of_ble_eq_true rfl) fun w hM => ?_
  have hb' := hb.at hM
  clear hM hb
  refine c_seq ?_
  refine c_region ?_
  refine w_asg rfl (by (conv => lhs; whnf); first | done | rfl) ?_
  refine w_nil ?_
  refine tq_n ?_
  refine c_seq ?_
  refine c_region ?_
  refine w_mov rfl (by (conv => lhs; whnf); first | done | rfl) ?_
  refine x_ld rfl (by (conv => lhs; whnf); first | done | rfl) (hb'.sub (List.nil_sublist _)) ?_
  refine w_eql rfl (by (conv => lhs; whnf); first | done | rfl) (by (conv => lhs; whnf); first | done | rfl) ?_
  refine w_asg rfl (by (conv => lhs; whnf); first | done | rfl) ?_
  refine w_nil ?_
  refine tq_n ?_
  refine c_ret ?_
  exact rq_r (ra_t (by (conv => lhs; whnf); first | done | rfl) .nil) (List.nil_sublist _) (⟨by unfold isP; rw [← dec2]; rfl, rfl⟩)
theorem drop1_g {x : Int} : Gives Try.prog w0 L 68 [.int .i64 x] (fun v' L' => v' = .bool (decide (isN x = true)) ∧ L' = L) := by
  refine enterP Try.func68 rfl Try.ntmps68 Try.results68 (Nat.le_of_ble_eq_true rfl) fun w hM => ?_
  clear hM
  refine c_seq ?_
  refine c_region ?_
  refine w_asg rfl (by (conv => lhs; whnf); first | done | rfl) ?_
  refine w_nil ?_
  refine tq_n ?_
  refine c_seq ?_
  refine c_region ?_
  refine w_mov rfl (by (conv => lhs; whnf); first | done | rfl) ?_
  refine w_geq rfl (by (conv => lhs; whnf); first | done | rfl) (by (conv => lhs; whnf); first | done | rfl) ?_
  refine w_asg rfl (by (conv => lhs; whnf); first | done | rfl) ?_
  refine w_nil ?_
  refine tq_n ?_
  refine c_ret ?_
  exact rq_r (ra_t (by (conv => lhs; whnf); first | done | rfl) .nil) (List.nil_sublist _) (⟨by unfold isN; rw [← dec2]; rfl, rfl⟩)
theorem TW.tabO {v : Value} {t : Tb} {Sv Sp Sd Sh S : Own} (h : TW v t Sv Sp Sd Sh) (hc : Cl t) (h1 : Sv.Sublist S) (h2 : Sp.Sublist S) (h3 : Sd.Sublist S) (h4 : Sh.Sublist S) : TabO S v t :=
  fun w0 L hs => h.tab hc (h1.trans hs) (h2.trans hs) (h3.trans hs) (h4.trans hs)
/-- A page more in the last log. -/
theorem tabO_last {t : Tb} {lo' : List Lg} {ph q : Int} {pg : List Int} {vd vh vl v9 : Value} {lv' : List (Int × Value)} {S' S9 Sv Sd Sh S : Own} (hc : Cl t) (hlo : t.lo = lo' ++ [⟨ph, pg⟩]) (g1 : OSl 3 1 vd (t.da.flatMap Sl.encI) t.da.length Sd) (g2 : OSl 4 1 vh (t.ha.flatMap Sl.encB) t.ha.length Sh)
    (g3 : OSl 102 2 vl ((lv' ++ [(ph, v9)]).flatMap encL) t.lo.length Sv) (g5 : LW lv' lo' S') (h9 : OSl 3 1 v9 (pg.map (Value.int .i64) ++ [.int .i64 q]) (pg.length + 1) S9) (hp : pg.length < 1048576)
    (h1 : Sv.Sublist S) (h2 : (S9 ++ S').Sublist S) (h3 : Sd.Sublist S) (h4 : Sh.Sublist S) : TabO S (.agg #[.int .i64 t.P, .int .i64 t.G, .int .i64 t.K, vd, vh, .int .i64 t.sp, .int .i64 t.sl, .int .i64 t.su, vl]) { t with lo := addLast t.lo q } := by
  have e : addLast t.lo q = lo' ++ [⟨ph, pg ++ [q]⟩] := by rw [hlo, addLast_snoc]
  have el : (lo' ++ [(⟨ph, pg ++ [q]⟩ : Lg)]).length = t.lo.length := by rw [hlo]; simp
  refine TW.tabO (Sv := Sv) (Sp := S9 ++ S') (Sd := Sd) (Sh := Sh) ⟨vd, vh, vl, lv' ++ [(ph, v9)], rfl, g1, g2, ?_, ?_⟩ ⟨hc.1, hc.2.1, ?_, fun l hl => ?_⟩ h1 h2 h3 h4
  · show OSl 102 2 vl _ (addLast t.lo q).length Sv
    rw [e, el]; exact g3
  · show LW _ (addLast t.lo q) _
    rw [e]; exact .snoc g5 (by simpa using h9) (by simp; omega)
  · show (addLast t.lo q).length ≤ _
    rw [e, el]; exact hc.2.2.1
  · have hl : l ∈ addLast t.lo q := hl
    rw [e] at hl
    rcases List.mem_append.1 hl with hl | hl
    · exact hc.2.2.2 l (by rw [hlo]; exact List.mem_append_left _ hl)
    · rw [List.mem_singleton.1 hl]; simp; omega
theorem OpR_inr {x : Sum Int Tb} {t : Tb} {v : Value} {S : Own} (hx : x = .inr t) (h : ∃ tv, v = .tuple #[tv, .int .i64 0] ∧ TabO S tv t) : OpR x v S := by subst hx; exact h
theorem OpR_inl {x : Sum Int Tb} {e : Int} {v : Value} {S : Own} (hx : x = .inl e) (h : v = .tuple #[.agg zT.toArray, .int .i64 e]) : OpR x v S := by subst hx; exact h
theorem pg_last {t : Tb} (h : Lists t) {lo' : List Lg} {ph : Int} {pg : List Int} (hlo : t.lo = lo' ++ [⟨ph, pg⟩]) : pg.length < 1048576 := by
  have := h.1.1
  have h2 := (h.2.1 lo'.length ⟨ph, pg⟩ (by rw [hlo]; simp)).1.1
  simp only at h2
  omega
theorem skip_g {v : Value} {t : Tb} {k b : Int} (h : TabR w0 L v t) : Gives Try.prog w0 L 25 [v, .agg #[.int .i64 k, .int .i64 b]] (fun v' L' => ∃ S, L' = S ++ L ∧ OpR (skip t k) v' S) := by
  refine enterB (R := OpR (skip t k)) Try.func25 rfl Try.ntmps25 Try.results25 (Nat.le_of_ble_eq_true rfl) fun w hM => ?_
  have hT := h.at hM
  obtain ⟨vd, vh, vl, rfl, hd, hh, hlo⟩ := ((h).at hM).ex; obtain ⟨Ad, cd, rfl, hdc, hdl, hdA, hdR⟩ := id hd.ex; obtain ⟨Ah, ch, rfl, hhc, hhl, hhA, hhR⟩ := id hh.ex; obtain ⟨Al, cl, rfl, hlc, hll, hlA, hlR⟩ := LogR.opn hlo
  clear hM
  refine c_seq ?_
  refine c_region ?_
  refine x_boxa rfl (by (conv => lhs; whnf); first | done | rfl) ?_
  intro b2
  refine x_boxa rfl (by (conv => lhs; whnf); first | done | rfl) ?_
  intro b3
  refine x_al rfl ?_
  intro b4
  refine w_asg rfl (by (conv => lhs; whnf); first | done | rfl) ?_
  refine w_nil ?_
  refine tq_n ?_
  refine c_seq ?_
  refine c_seq ?_
  refine c_region ?_
  refine x_ldao rfl (by (conv => lhs; whnf); first | done | rfl) (by first | exact HasC.out | exact PutC.out | repeat (first | exact .here | apply Has.there | apply Put.there | apply Has.app | apply Put.app)) rfl ?_
  refine x_callp (by decide) (check_g (hT.sub (List.nil_sublist _))) rfl rfl rfl ?_
  refine w_asg rfl (by (conv => lhs; whnf); first | done | rfl) ?_
  refine w_nil ?_
  refine tq_n ?_
  refine c_seq ?_
  refine c_region ?_
  refine w_mov rfl (by (conv => lhs; whnf); first | done | rfl) ?_
  refine w_neq rfl (by (conv => lhs; whnf); first | done | rfl) (by (conv => lhs; whnf); first | done | rfl) ?_
  refine w_nil ?_
  refine tq_n ?_
  refine c_cond_d (by (conv => lhs; whnf); first | done | rfl) (fun hc11 => ?_) (fun hc11 => ?_)
  · have hm : ¬ May t := fun hm => hc11 (if_pos hm)
    refine c_seq ?_
    refine c_region ?_
    refine x_bld rfl .nil rfl ?_
    refine w_mov rfl (by (conv => lhs; whnf); first | done | rfl) ?_
    refine x_stw rfl (by (conv => lhs; whnf); first | done | rfl) (by (conv => lhs; whnf); first | done | rfl) rfl rfl (by first | exact HasC.out | exact PutC.out | repeat (first | exact .here | apply Has.there | apply Put.there | apply Has.app | apply Put.app)) rfl ?_
    refine w_asg rfl (by (conv => lhs; whnf); first | done | rfl) ?_
    refine w_nil ?_
    refine tq_n ?_
    refine c_ret ?_
    refine tq_r ?_
    exact rq_r (ra_c (by (conv => lhs; whnf); first | done | rfl) (by first | exact HasC.out | exact PutC.out | repeat (first | exact .here | apply Has.there | apply Put.there | apply Has.app | apply Put.app)) rfl (ra_t (by (conv => lhs; whnf); first | done | rfl) .nil)) (by first | exact SubL.out | repeat (first | exact List.Sublist.refl _ | exact List.nil_sublist _ | refine .cons_cons _ ?_ | refine .cons _ ?_ | refine List.Sublist.append (List.Sublist.refl _) ?_ | exact List.sublist_append_left _ _ | refine List.Sublist.trans ?_ (List.sublist_append_right _ _))) ((by unfold skip; simp only [if_neg hm]; rfl))
  · have hm : May t := Decidable.byContradiction fun hm => hc11 (by rw [if_neg hm]; decide)
    have hLi := hm.1
    have hcl := hLi.cl
    refine c_skip ?_
    refine tq_n ?_
    refine c_seq ?_
    refine c_seq ?_
    refine c_region_j [14, 15, 16, 17, 18, 19, 20, 21] 21 (.bool (decide (¬ (k = 2 ∧ room t)))) ?_ (fun g4 => ?_)
    · all_goals (refine x_fa rfl (by (conv => lhs; whnf); first | done | rfl) ?_)
      all_goals (refine x_ldo rfl (by (conv => lhs; whnf); first | done | rfl) (by first | exact HasC.out | exact PutC.out | repeat (first | exact .here | apply Has.there | apply Put.there | apply Has.app | apply Put.app)) (by (conv => lhs; whnf); first | done | rfl) ?_)
      all_goals (refine w_neq rfl (by (conv => lhs; whnf); first | done | rfl) (by (conv => lhs; whnf); first | done | rfl) ?_)
      all_goals (refine w_mov rfl (by (conv => lhs; whnf); first | done | rfl) ?_)
      all_goals (first | refine w_lit true rfl rfl rfl ?_ | refine w_lit false rfl rfl rfl ?_ | refine w_cases_od rfl rfl rfl (fun hg => ?_) (fun hg => ?_) | refine w_cases_o rfl rfl rfl (fun hg => ?_) (fun hg => ?_) | skip)
      all_goals (first | refine w_skip rfl ?_ | (refine x_ldao rfl (by (conv => lhs; whnf); first | done | rfl) (by first | exact HasC.out | exact PutC.out | repeat (first | exact .here | apply Has.there | apply Put.there | apply Has.app | apply Put.app)) rfl ?_))
      all_goals (first | refine w_skip rfl ?_ | (refine x_callp (by decide) (room_g (hT.sub (List.nil_sublist _))) rfl rfl rfl ?_))
      all_goals (first | refine w_skip rfl ?_ | (refine w_notd rfl (by (conv => lhs; whnf); first | done | rfl) ?_))
      all_goals (first | refine w_pick_t rfl rfl (by (conv => lhs; whnf); first | done | rfl) ?_ | refine w_pick_f rfl rfl (by (conv => lhs; whnf); first | done | rfl) ?_)
      all_goals (refine w_nil ?_)
      all_goals (refine jn (by first | exact (Ag.upd rfl (Ag.upd rfl (Ag.upd rfl (Ag.upd rfl (Ag.upd rfl (Ag.upd rfl (Ag.upd rfl (Ag.upd rfl Ag.refl)))))))) | exact (by first | ((repeat (first | with_reducible exact Ag.refl | with_reducible exact Ag.ov | (with_reducible refine Ag.upd ?_ ?_; exact rfl) | with_reducible refine Ag.putn ?_ | (with_reducible refine Ag.ovs ?_ ?_; exact rfl))); done) | (repeat (first | exact Ag.refl | exact Ag.ov | (refine Ag.upd ?_ ?_; exact rfl) | refine Ag.putn ?_ | (refine Ag.ovs ?_ ?_; exact rfl))))) (by (conv => lhs; whnf); first | done | rfl) ?_)
      all_goals (exact congrArg Value.bool (by first | exact (decide_eq_true (show ¬ (k = 2 ∧ room t) from fun h => hg h.1)).symm | exact decide_eq_decide.2 ⟨fun h h2 => h h2.2, fun h h2 => h ⟨Decidable.not_not.1 hg, h2⟩⟩))
    refine tq_n ?_
    refine c_cond_d (by (conv => lhs; whnf); first | done | rfl) (fun hc21 => ?_) (fun hc21 => ?_)
    · refine c_seq ?_
      refine c_region ?_
      refine x_bld rfl .nil rfl ?_
      refine x_stw rfl (by (conv => lhs; whnf); first | done | rfl) (by (conv => lhs; whnf); first | done | rfl) rfl rfl (by first | exact HasC.out | exact PutC.out | repeat (first | exact .here | apply Has.there | apply Put.there | apply Has.app | apply Put.app)) rfl ?_
      refine w_asg rfl (by (conv => lhs; whnf); first | done | rfl) ?_
      refine w_nil ?_
      refine tq_n ?_
      refine c_ret ?_
      refine tq_r ?_
      exact rq_r (ra_c (by (conv => lhs; whnf); first | done | rfl) (by first | exact HasC.out | exact PutC.out | repeat (first | exact .here | apply Has.there | apply Put.there | apply Has.app | apply Put.app)) rfl (ra_t (by (conv => lhs; whnf); first | done | rfl) .nil)) (by first | exact SubL.out | repeat (first | exact List.Sublist.refl _ | exact List.nil_sublist _ | refine .cons_cons _ ?_ | refine .cons _ ?_ | refine List.Sublist.append (List.Sublist.refl _) ?_ | exact List.sublist_append_left _ _ | refine List.Sublist.trans ?_ (List.sublist_append_right _ _))) ((by unfold skip; simp only [if_pos hm, if_neg hc21]; rfl))
    · have hkr := Decidable.not_not.1 hc21
      refine c_skip ?_
      refine tq_n ?_
      refine c_seq ?_
      refine c_region ?_
      refine x_ldao rfl (by (conv => lhs; whnf); first | done | rfl) (by first | exact HasC.out | exact PutC.out | repeat (first | exact .here | apply Has.there | apply Put.there | apply Has.app | apply Put.app)) rfl ?_
      refine x_call (clone_g (hT.sub (List.nil_sublist _)) hcl) rfl rfl rfl ?_
      rintro _ _ ⟨S, rfl, Sv, Sp, Sd, Sh, rfl, vd2, vh2, vl2, lv, rfl, g1, g2, g3, g4⟩
      obtain ⟨Ad2, cd2, rfl, _⟩ := g1.form
      obtain ⟨Ah2, ch2, rfl, _⟩ := g2.form
      obtain ⟨Al2, cl2, rfl, hcl2, hAl, hRl⟩ := logs_opn g3 g4.len hcl.2.2.1
      obtain ⟨lv', lo', ph, pv, pg, S', S1, rfl, hlo', rfl, g5, g6, hpg⟩ := g4.last hkr.2.1
      have hln := g4.len
      have hl5 := g5.len
      have hll5 : lv'.length = t.lo.length - 1 := (by rw [hl5, hlo']; simp)
      have hix : ((t.lo.length : Int) - 1).toNat = lv'.length := (by have := hkr.2.1; omega)
      have hlp : (lv' ++ [(ph, pv)])[((t.lo.length : Int) - 1).toNat]? = some (ph, pv) := (by rw [show ((t.lo.length : Int) - 1).toNat = lv'.length by have := hkr.2.1; omega]; simp)
      obtain ⟨Ap, cp, rfl, hcp⟩ := g6.form
      simp only [List.append_assoc]
      refine x_stw rfl (by (conv => lhs; whnf); first | done | rfl) (by (conv => lhs; whnf); first | done | rfl) rfl rfl (by first | exact HasC.out | exact PutC.out | repeat (first | exact .here | apply Has.there | apply Put.there | apply Has.app | apply Put.app)) rfl ?_
      refine w_nil ?_
      refine tq_n ?_
      refine c_seq ?_
      refine c_region ?_
      refine x_fa rfl (by (conv => lhs; whnf); first | done | rfl) ?_
      refine x_ldo rfl (by (conv => lhs; whnf); first | done | rfl) (by first | exact HasC.out | exact PutC.out | repeat (first | exact .here | apply Has.there | apply Put.there | apply Has.app | apply Put.app)) (by (conv => lhs; whnf); first | done | rfl) ?_
      refine x_len rfl (by (conv => lhs; whnf); first | done | rfl) ?_
      refine w_sub rfl (by (conv => lhs; whnf); first | done | rfl) (by (conv => lhs; whnf); first | done | rfl) (by omega) ?_
      refine w_asg rfl (by (conv => lhs; whnf); first | done | rfl) ?_
      refine w_nil ?_
      refine tq_n ?_
      refine c_seq ?_
      refine d_begin_s ((show List.Sublist (Sv ++ (S' ++ (Sd ++ (Sh ++ _)))) _ from (by first | exact SubL.out | repeat (first | exact List.Sublist.refl _ | exact List.nil_sublist _ | refine .cons_cons _ ?_ | refine .cons _ ?_ | refine List.Sublist.append (List.Sublist.refl _) ?_ | exact List.sublist_append_left _ _ | refine List.Sublist.trans ?_ (List.sublist_append_right _ _))))) [13] mixed ?_
      refine d_tk0 0 (np_then np_ret) rfl (by kernel_rfl) (by kernel_rfl) (by kernel_rfl) (by kernel_rfl) (.inl (by first | exact SubL.out | repeat (first | exact List.Sublist.refl _ | exact List.nil_sublist _ | refine .cons_cons _ ?_ | refine .cons _ ?_ | refine List.Sublist.append (List.Sublist.refl _) ?_ | exact List.sublist_append_left _ _ | refine List.Sublist.trans ?_ (List.sublist_append_right _ _)))) ?_
      refine x_fa rfl (by (conv => lhs; whnf); first | done | rfl) ?_
      refine w_nil ⟨rfl, rfl, ?_⟩
      refine d_tk 1 (np_then np_ret) rfl (by kernel_rfl) (by kernel_rfl) (by kernel_rfl) (by kernel_rfl) (by kernel_rfl) (by first | exact SubL.out | repeat (first | exact List.Sublist.refl _ | exact List.nil_sublist _ | refine .cons_cons _ ?_ | refine .cons _ ?_ | refine List.Sublist.append (List.Sublist.refl _) ?_ | exact List.sublist_append_left _ _ | refine List.Sublist.trans ?_ (List.sublist_append_right _ _))) ?_
      refine x_ldo rfl (by (conv => lhs; whnf); first | done | rfl) (by first | exact HasC.out | exact PutC.out | repeat (first | exact .here | apply Has.there | apply Put.there | apply Has.app | apply Put.app)) (by (conv => lhs; whnf); first | done | rfl) ?_
      refine w_nil ⟨rfl, rfl, ?_⟩
      refine d_tk0 2 (np_then np_ret) rfl (by kernel_rfl) (by kernel_rfl) (by kernel_rfl) (by kernel_rfl) (.inl (by first | exact SubL.out | repeat (first | exact List.Sublist.refl _ | exact List.nil_sublist _ | refine .cons_cons _ ?_ | refine .cons _ ?_ | refine List.Sublist.append (List.Sublist.refl _) ?_ | exact List.sublist_append_left _ _ | refine List.Sublist.trans ?_ (List.sublist_append_right _ _)))) ?_
      refine w_mov rfl (by (conv => lhs; whnf); first | done | rfl) ?_
      refine w_nil ⟨rfl, rfl, ?_⟩
      refine d_tk0 3 (np_then np_ret) rfl (by kernel_rfl) (by kernel_rfl) (by kernel_rfl) (by kernel_rfl) (.inl (by first | exact SubL.out | repeat (first | exact List.Sublist.refl _ | exact List.nil_sublist _ | refine .cons_cons _ ?_ | refine .cons _ ?_ | refine List.Sublist.append (List.Sublist.refl _) ?_ | exact List.sublist_append_left _ _ | refine List.Sublist.trans ?_ (List.sublist_append_right _ _)))) ?_
      refine x_fa rfl (by (conv => lhs; whnf); first | done | rfl) ?_
      refine w_nil ⟨rfl, rfl, ?_⟩
      refine d_tk 4 (np_then np_ret) rfl (by kernel_rfl) (by kernel_rfl) (by kernel_rfl) (by kernel_rfl) (by kernel_rfl) (by first | exact SubL.out | repeat (first | exact List.Sublist.refl _ | exact List.nil_sublist _ | refine .cons_cons _ ?_ | refine .cons _ ?_ | refine List.Sublist.append (List.Sublist.refl _) ?_ | exact List.sublist_append_left _ _ | refine List.Sublist.trans ?_ (List.sublist_append_right _ _))) ?_
      refine x_ldo rfl (by (conv => lhs; whnf); first | done | rfl) (by first | exact HasC.out | exact PutC.out | repeat (first | exact .here | apply Has.there | apply Put.there | apply Has.app | apply Put.app)) (by (conv => lhs; whnf); first | done | rfl) ?_
      refine w_nil ⟨rfl, rfl, ?_⟩
      refine d_tk0 5 (np_then np_ret) rfl (by kernel_rfl) (by kernel_rfl) (by kernel_rfl) (by kernel_rfl) (.inl (by first | exact SubL.out | repeat (first | exact List.Sublist.refl _ | exact List.nil_sublist _ | refine .cons_cons _ ?_ | refine .cons _ ?_ | refine List.Sublist.append (List.Sublist.refl _) ?_ | exact List.sublist_append_left _ _ | refine List.Sublist.trans ?_ (List.sublist_append_right _ _)))) ?_
      refine w_mov rfl (by (conv => lhs; whnf); first | done | rfl) ?_
      refine w_nil ⟨rfl, rfl, ?_⟩
      refine d_tk0 6 (np_then np_ret) rfl (by kernel_rfl) (by kernel_rfl) (by kernel_rfl) (by kernel_rfl) (.inl (by first | exact SubL.out | repeat (first | exact List.Sublist.refl _ | exact List.nil_sublist _ | refine .cons_cons _ ?_ | refine .cons _ ?_ | refine List.Sublist.append (List.Sublist.refl _) ?_ | exact List.sublist_append_left _ _ | refine List.Sublist.trans ?_ (List.sublist_append_right _ _)))) ?_
      refine x_ixA rfl (by (conv => lhs; whnf); first | done | rfl) (by (conv => lhs; whnf); first | done | rfl) (hAl hkr.2.1) (by omega) (by omega) ?_
      refine w_nil ⟨rfl, rfl, ?_⟩
      refine d_tk0 7 (np_then np_ret) rfl (by kernel_rfl) (by kernel_rfl) (by kernel_rfl) (by kernel_rfl) (.inl (by first | exact SubL.out | repeat (first | exact List.Sublist.refl _ | exact List.nil_sublist _ | refine .cons_cons _ ?_ | refine .cons _ ?_ | refine List.Sublist.append (List.Sublist.refl _) ?_ | exact List.sublist_append_left _ _ | refine List.Sublist.trans ?_ (List.sublist_append_right _ _)))) ?_
      refine x_fa rfl (by (conv => lhs; whnf); first | done | rfl) ?_
      refine w_nil ⟨rfl, rfl, ?_⟩
      refine d_tk 8 (np_then np_ret) rfl (by kernel_rfl) (by kernel_rfl) (by kernel_rfl) (by kernel_rfl) (by kernel_rfl) (by first | exact SubL.out | repeat (first | exact List.Sublist.refl _ | exact List.nil_sublist _ | refine .cons_cons _ ?_ | refine .cons _ ?_ | refine List.Sublist.append (List.Sublist.refl _) ?_ | exact List.sublist_append_left _ _ | refine List.Sublist.trans ?_ (List.sublist_append_right _ _))) ?_
      refine x_ld rfl (by (conv => lhs; whnf); first | done | rfl) ((hRl _ _ (by first | exact SubL.out | repeat (first | exact List.Sublist.refl _ | exact List.nil_sublist _ | refine .cons_cons _ ?_ | refine .cons _ ?_ | refine List.Sublist.append (List.Sublist.refl _) ?_ | exact List.sublist_append_left _ _ | refine List.Sublist.trans ?_ (List.sublist_append_right _ _))) _ _ hlp).2) ?_
      refine w_nil ⟨rfl, rfl, ?_⟩
      refine d_one 9 rfl (by kernel_rfl) ?_
      refine x_bs1 rfl (by (conv => lhs; whnf); first | done | rfl) rfl rfl rfl rfl ?_
      intro b38
      refine w_nil ⟨rfl, (.inl (by first | exact SubL.out | repeat (first | exact List.Sublist.refl _ | exact List.nil_sublist _ | refine .cons_cons _ ?_ | refine .cons _ ?_ | refine List.Sublist.append (List.Sublist.refl _) ?_ | exact List.sublist_append_left _ _ | refine List.Sublist.trans ?_ (List.sublist_append_right _ _)))), ?_⟩
      refine d_one 10 rfl (by kernel_rfl) ?_
      refine x_app rfl (by (conv => lhs; whnf); first | done | rfl) (by (conv => lhs; whnf); first | done | rfl) (perm4') (g6) (xs_new (by first | exact HasC.out | exact PutC.out | repeat (first | exact .here | apply Has.there | apply Put.there | apply Has.app | apply Put.app))) (rfl) (rfl) (by have := hcl.2.2.2 ⟨ph, pg⟩ (by rw [hlo']; simp); simp only at this; omega) (by decide) ?_
      rintro v39 S39 hS39
      obtain ⟨cs2, Sv2, hput, hbnd, g3'⟩ := logs_set (v := v39) g3 rfl
      rw [← hix] at hput hbnd
      refine w_nil ⟨rfl, (.inl (by first | exact SubL.out | repeat (first | exact List.Sublist.refl _ | exact List.nil_sublist _ | refine .cons_cons _ ?_ | refine .cons _ ?_ | refine List.Sublist.append (List.Sublist.refl _) ?_ | exact List.sublist_append_left _ _ | refine List.Sublist.trans ?_ (List.sublist_append_right _ _)))), ?_⟩
      refine d_tk0 11 (np_then np_ret) rfl (by kernel_rfl) (by kernel_rfl) (by kernel_rfl) (by kernel_rfl) (.inl (by first | exact SubL.out | repeat (first | exact List.Sublist.refl _ | exact List.nil_sublist _ | refine .cons_cons _ ?_ | refine .cons _ ?_ | refine List.Sublist.append (List.Sublist.refl _) ?_ | exact List.sublist_append_left _ _ | refine List.Sublist.trans ?_ (List.sublist_append_right _ _)))) ?_
      refine x_ixA rfl (by (conv => lhs; whnf); first | done | rfl) (by (conv => lhs; whnf); first | done | rfl) (hAl hkr.2.1) (by omega) (by omega) ?_
      refine w_nil ⟨rfl, rfl, ?_⟩
      refine d_tk0 12 (np_then np_ret) rfl (by kernel_rfl) (by kernel_rfl) (by kernel_rfl) (by kernel_rfl) (.inl (by first | exact SubL.out | repeat (first | exact List.Sublist.refl _ | exact List.nil_sublist _ | refine .cons_cons _ ?_ | refine .cons _ ?_ | refine List.Sublist.append (List.Sublist.refl _) ?_ | exact List.sublist_append_left _ _ | refine List.Sublist.trans ?_ (List.sublist_append_right _ _)))) ?_
      refine x_fa rfl (by (conv => lhs; whnf); first | done | rfl) ?_
      refine w_nil ⟨rfl, rfl, ?_⟩
      refine d_one 13 rfl (by kernel_rfl) ?_
      refine x_sts rfl (by (conv => lhs; whnf); first | done | rfl) (by (conv => lhs; whnf); first | done | rfl) (hS39.one) (Put.app (.there (Put.appl hput))) (hbnd) ?_
      refine w_nil ⟨rfl, (.inr (by kernel_rfl)), ?_⟩
      refine d_done (by kernel_rfl) ?_
      refine tq_n ?_
      refine c_seq ?_
      refine c_region ?_
      refine x_ldao rfl (by (conv => lhs; whnf); first | done | rfl) (by first | exact HasC.out | exact PutC.out | repeat (first | exact .here | apply Has.there | apply Put.there | apply Has.app | apply Put.app)) rfl ?_
      refine x_stw rfl (by (conv => lhs; whnf); first | done | rfl) (by (conv => lhs; whnf); first | done | rfl) rfl rfl (by first | exact HasC.out | exact PutC.out | repeat (first | exact .here | apply Has.there | apply Put.there | apply Has.app | apply Put.app)) rfl ?_
      refine w_asg rfl (by (conv => lhs; whnf); first | done | rfl) ?_
      refine w_nil ?_
      refine tq_n ?_
      refine c_ret ?_
      exact rq_r (ra_c (by (conv => lhs; whnf); first | done | rfl) (by first | exact HasC.out | exact PutC.out | repeat (first | exact .here | apply Has.there | apply Put.there | apply Has.app | apply Put.app)) rfl (ra_t (by (conv => lhs; whnf); first | done | rfl) .nil)) (by first | exact SubL.out | repeat (first | exact List.Sublist.refl _ | exact List.nil_sublist _ | refine .cons_cons _ ?_ | refine .cons _ ?_ | refine List.Sublist.append (List.Sublist.refl _) ?_ | exact List.sublist_append_left _ _ | refine List.Sublist.trans ?_ (List.sublist_append_right _ _))) (OpR_inr (S := S39 ++ (Sv2 ++ (S' ++ (Sd ++ Sh)))) (show skip t k = _ by unfold skip; simp only [if_pos hm, if_pos hkr]) ⟨_, rfl, tabO_last hcl hlo' g1 g2 g3' g5 hS39 (pg_last hLi hlo') (by first | exact SubL.out | repeat (first | exact List.Sublist.refl _ | exact List.nil_sublist _ | refine .cons_cons _ ?_ | refine .cons _ ?_ | refine List.Sublist.append (List.Sublist.refl _) ?_ | exact List.sublist_append_left _ _ | refine List.Sublist.trans ?_ (List.sublist_append_right _ _))) (by first | exact SubL.out | repeat (first | exact List.Sublist.refl _ | exact List.nil_sublist _ | refine .cons_cons _ ?_ | refine .cons _ ?_ | refine List.Sublist.append (List.Sublist.refl _) ?_ | exact List.sublist_append_left _ _ | refine List.Sublist.trans ?_ (List.sublist_append_right _ _))) (by first | exact SubL.out | repeat (first | exact List.Sublist.refl _ | exact List.nil_sublist _ | refine .cons_cons _ ?_ | refine .cons _ ?_ | refine List.Sublist.append (List.Sublist.refl _) ?_ | exact List.sublist_append_left _ _ | refine List.Sublist.trans ?_ (List.sublist_append_right _ _))) (by first | exact SubL.out | repeat (first | exact List.Sublist.refl _ | exact List.nil_sublist _ | refine .cons_cons _ ?_ | refine .cons _ ?_ | refine List.Sublist.append (List.Sublist.refl _) ?_ | exact List.sublist_append_left _ _ | refine List.Sublist.trans ?_ (List.sublist_append_right _ _)))⟩)
end
end Go.Proofs.Ytnmhhelcaibdoaa.Pl
