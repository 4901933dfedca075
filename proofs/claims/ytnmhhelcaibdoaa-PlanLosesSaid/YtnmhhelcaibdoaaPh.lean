/- The blocks in use (plan.Used), fresh. -/
import Derived.Test.YtnmhhelcaibdoaaPg
namespace Go.Proofs.Ytnmhhelcaibdoaa.Pl
open Go Go.RowKit Sl
set_option linter.unusedVariables false
set_option linter.unusedSimpArgs false
def srt (l : List Int) : List Int := l.mergeSort fun x y => decide (x ≤ y)
def usedL (t : Tb) : List Int := nn (t.sp :: t.da) ++ t.lo.map Lg.ph
abbrev frsh (t : Tb) (x : Int) : Prop := (0 ≤ x ∧ x ≤ 255) ∧ x ∉ usedL t
theorem mem_srt {l : List Int} {x : Int} : x ∈ srt l ↔ x ∈ l := List.mem_mergeSort
theorem len_srt {l : List Int} : (srt l).length = l.length := (List.mergeSort_perm _ _).length_eq
theorem nn_len (l : List Int) : (nn l).length ≤ l.length := List.length_filter_le _ _
section
variable {w0 : World} {L : Own}
theorem nn_snoc_osl {l : List Int} {x : Int} {v : Value} {S : Own} (h0 : 0 ≤ x) (h : OSl 3 1 v ((nn l).map (Value.int .i64) ++ [.int .i64 x]) ((nn l).length + 1) S) : OSl 3 1 v ((nn (l ++ [x])).map (Value.int .i64)) (nn (l ++ [x])).length S := by
  rw [nn_snoc, if_pos h0]; simpa using h
theorem nn_skip_osl {l : List Int} {x : Int} {v : Value} {S : Own} (h0 : ¬ 0 ≤ x) (h : OSl 3 1 v ((nn l).map (Value.int .i64)) (nn l).length S) : OSl 3 1 v ((nn (l ++ [x])).map (Value.int .i64)) (nn (l ++ [x])).length S := by
  rw [nn_snoc, if_neg h0]; exact h
theorem ph_snoc_osl {a : List Int} {lo : List Lg} {k : Nat} (hk : k < lo.length) {v : Value} {S : Own} (h : OSl 3 1 v ((a ++ (lo.take k).map Lg.ph).map (Value.int .i64) ++ [.int .i64 (lo[k]).ph]) ((a ++ (lo.take k).map Lg.ph).length + 1) S) : OSl 3 1 v ((a ++ (lo.take (k + 1)).map Lg.ph).map (Value.int .i64)) (a ++ (lo.take (k + 1)).map Lg.ph).length S := by
  have e : a ++ (lo.take (k + 1)).map Lg.ph = (a ++ (lo.take k).map Lg.ph) ++ [(lo[k]).ph] := by rw [take_succ' hk, List.map_append, List.append_assoc]; rfl
  rw [e]
  simpa [Nat.add_assoc] using h
theorem encI_ne (x : Int) : Sl.encI x ≠ [] := by simp [Sl.encI]
theorem encB_ne (x : Bool) : Sl.encB x ≠ [] := by simp [Sl.encB]
theorem used_g {v : Value} {t : Tb} (h : TabR w0 L v t) (hm : May t) : Gives Try.prog w0 L 104 [v] (fun v' L' => ∃ S, L' = S ++ L ∧ OSl 3 1 v' ((srt (usedL t)).map (Value.int .i64)) (usedL t).length S) := by
  refine enterB (R := fun v' S => OSl 3 1 v' ((srt (usedL t)).map (Value.int .i64)) (usedL t).length S) Try.func104 rfl Try.ntmps104 Try.results104 (Nat.le_of_ble_eq_true rfl) fun w hM => ?_
  have hT := h.at hM
  obtain ⟨vd, vh, vl, rfl, hd, hh, hlo⟩ := ((h).at hM).ex; obtain ⟨Ad, cd, rfl, hdc, hdl, hdA, hdR⟩ := id hd.ex; obtain ⟨Ah, ch, rfl, hhc, hhl, hhA, hhR⟩ := id hh.ex; obtain ⟨Al, cl, rfl, hlc, hll, hlA, hlR⟩ := LogR.opn hlo
  clear hM
  have hLi := hm.1
  have hGP := gp_le hLi.1.1
  have hG := hLi.1.2.1
  have hK := hLi.1.2.2.2
  have hK2 := hLi.1.1.2.2.2
  have hG2 := hLi.1.1.2.1.2
  have hxs : t.sp :: t.da = [t.sp] ++ t.da := rfl
  refine c_seq ?_
  refine c_region ?_
  refine x_boxa rfl (by (conv => lhs; whnf); first | done | rfl) ?_
  intro b1
  refine w_asg rfl (by (conv => lhs; whnf); first | done | rfl) ?_
  refine w_nil ?_
  refine tq_n ?_
  refine c_seq ?_
  refine c_region ?_
  refine x_ldao rfl (by (conv => lhs; whnf); first | done | rfl) (by first | exact HasC.out | exact PutC.out | repeat (first | exact .here | apply Has.there | apply Put.there | apply Has.app | apply Put.app)) rfl ?_
  refine x_call (may_g (hT.sub (List.nil_sublist _))) rfl rfl rfl ?_
  rintro _ _ ⟨S65, rfl, hS1, hS2⟩
  obtain ⟨rfl, rfl⟩ := hS1 hm
  refine x_stw rfl (by (conv => lhs; whnf); first | done | rfl) (by (conv => lhs; whnf); first | done | rfl) rfl rfl (by first | exact HasC.out | exact PutC.out | repeat (first | exact .here | apply Has.there | apply Put.there | apply Has.app | apply Put.app)) rfl ?_
  refine w_nil ?_
  refine tq_n ?_
  refine c_seq ?_
  refine c_region ?_
  refine w_asg rfl (by (conv => lhs; whnf); first | done | rfl) ?_
  refine w_nil ?_
  refine tq_n ?_
  refine c_seq ?_
  refine c_seq ?_
  refine c_region ?_
  refine x_fa rfl (by (conv => lhs; whnf); first | done | rfl) ?_
  refine x_fa rfl (by (conv => lhs; whnf); first | done | rfl) ?_
  refine x_ldo rfl (by (conv => lhs; whnf); first | done | rfl) (by first | exact HasC.out | exact PutC.out | repeat (first | exact .here | apply Has.there | apply Put.there | apply Has.app | apply Put.app)) (by (conv => lhs; whnf); first | done | rfl) ?_
  refine x_bs1 rfl (by (conv => lhs; whnf); first | done | rfl) rfl rfl rfl rfl ?_
  intro b13
  refine x_fa rfl (by (conv => lhs; whnf); first | done | rfl) ?_
  refine x_ldo rfl (by (conv => lhs; whnf); first | done | rfl) (by first | exact HasC.out | exact PutC.out | repeat (first | exact .here | apply Has.there | apply Put.there | apply Has.app | apply Put.app)) (by (conv => lhs; whnf); first | done | rfl) ?_
  refine x_app rfl (by (conv => lhs; whnf); first | done | rfl) (by (conv => lhs; whnf); first | done | rfl) (List.Perm.refl ([_] ++ _)) (osl_full (n := 1) (cs := [.int .i64 t.sp]) rfl rfl) ((SlR.xs hd encI_ne).sub (List.nil_sublist _)) (lenI _) (onesI _) (by omega) (by decide) ?_
  rintro v16 S16 hS16
  obtain ⟨A16, c16, rfl, hcc16, hl16, hA16, hR16⟩ := (SlR.ofOSl (w0 := w) (xs := t.sp :: t.da) (enc := Sl.encI) (len := 1 + t.da.length) hS16 (by rw [List.length_cons]; omega) (by omega) (List.Sublist.refl _)).ex
  refine x_len rfl (by (conv => lhs; whnf); first | done | rfl) ?_
  refine w_mov rfl (by (conv => lhs; whnf); first | done | rfl) ?_
  refine w_nil ?_
  refine tq_n ?_
  refine c_block ?_
  refine c_loop_ov [19, 20, 21, 5, 22, 23, 24, 25, 26, 27, 3, 28, 18] (fun m s L => ∃ (k : Nat) (v3 : Value) (S3 : Own), k ≤ (t.sp :: t.da).length ∧ OSl 3 1 v3 ((nn ((t.sp :: t.da).take k)).map (Value.int .i64)) (nn ((t.sp :: t.da).take k)).length S3 ∧ m = (t.sp :: t.da).length - k ∧ s = [(3, v3), (18, .int .i64 k)] ∧ L = S3 ++ (S16 ++ [(b1, B 43 (cT t Ad cd Ah ch Al cl))])) ((t.sp :: t.da).length) [(3, .slice none 0 0), (18, .int .i64 (0 : Nat))] (by repeat (first | exact .nil | refine .cons rfl ?_)) (by first | exact SubL.out | repeat (first | exact List.Sublist.refl _ | exact List.nil_sublist _ | refine .cons_cons _ ?_ | refine .cons _ ?_ | refine List.Sublist.append (List.Sublist.refl _) ?_ | exact List.sublist_append_left _ _ | refine List.Sublist.trans ?_ (List.sublist_append_right _ _))) (⟨0, _, [], by omega, .nil, by omega, rfl, rfl⟩) ?_
  rintro mI sI LI gL0 ⟨k, v3, S3, hk, hS3, rfl, rfl, rfl⟩
  refine c_seq ?_
  refine c_region ?_
  refine w_lss rfl (by (conv => lhs; whnf); first | done | rfl) (by (conv => lhs; whnf); first | done | rfl) ?_
  refine w_nil ?_
  refine tq_n ?_
  refine c_seq ?_
  refine c_cond_d (by (conv => lhs; whnf); first | done | rfl) (fun hc19 => ?_) (fun hc19 => ?_)
  · have hlt : k < (t.sp :: t.da).length := by simp only [List.length_cons] at *; omega
    refine c_skip ?_
    refine tq_n ?_
    refine c_seq ?_
    refine c_block ?_
    refine c_seq ?_
    refine c_region ?_
    refine x_ixA rfl (by (conv => lhs; whnf); first | done | rfl) (by (conv => lhs; whnf); first | done | rfl) (hA16 (ne_of_lt hlt)) (by omega) (by omega) ?_
    refine x_ld rfl (by (conv => lhs; whnf); first | done | rfl) (rdI' (j := (k : Int)) (by first | exact SubL.out | repeat (first | exact List.Sublist.refl _ | exact List.nil_sublist _ | refine .cons_cons _ ?_ | refine .cons _ ?_ | refine List.Sublist.append (List.Sublist.refl _) ?_ | exact List.sublist_append_left _ _ | refine List.Sublist.trans ?_ (List.sublist_append_right _ _))) hR16 (getN hlt)) ?_
    refine w_asg rfl (by (conv => lhs; whnf); first | done | rfl) ?_
    refine w_nil ?_
    refine tq_n ?_
    refine c_seq ?_
    refine c_region ?_
    refine w_mov rfl (by (conv => lhs; whnf); first | done | rfl) ?_
    refine w_geq rfl (by (conv => lhs; whnf); first | done | rfl) (by (conv => lhs; whnf); first | done | rfl) ?_
    refine w_nil ?_
    refine tq_n ?_
    refine c_cond_d (by (conv => lhs; whnf); first | done | rfl) (fun hc23 => ?_) (fun hc23 => ?_)
    · refine c_region ?_
      refine w_mov rfl (by (conv => lhs; whnf); first | done | rfl) ?_
      refine w_mov rfl (by (conv => lhs; whnf); first | done | rfl) ?_
      refine x_bs1 rfl (by (conv => lhs; whnf); first | done | rfl) rfl rfl rfl rfl ?_
      intro b26
      refine x_app rfl (by (conv => lhs; whnf); first | done | rfl) (by (conv => lhs; whnf); first | done | rfl) (perm1) (hS3) (xs_new (by first | exact HasC.out | exact PutC.out | repeat (first | exact .here | apply Has.there | apply Put.there | apply Has.app | apply Put.app))) (rfl) (rfl) (by have := nn_len ((t.sp :: t.da).take k); simp only [List.length_take, List.length_cons] at *; omega) (by decide) ?_
      rintro v4 S4 hS4'
      have hS4 := nn_snoc_osl hc23 hS4'
      rw [← take_succ' hlt] at hS4
      refine w_asg rfl (by (conv => lhs; whnf); first | done | rfl) ?_
      refine w_nil ?_
      refine bq_n ?_
      refine tq_n ?_
      refine c_region ?_
      refine w_add rfl (by (conv => lhs; whnf); first | done | rfl) (by (conv => lhs; whnf); first | done | rfl) (by omega) ?_
      refine w_mov rfl (by (conv => lhs; whnf); first | done | rfl) ?_
      refine w_nil ?_
      refine tq_n ?_
      exact ⟨(by first | ((repeat (first | with_reducible exact Ag.refl | with_reducible exact Ag.ov | (with_reducible refine Ag.upd ?_ ?_; exact rfl) | with_reducible refine Ag.putn ?_ | (with_reducible refine Ag.ovs ?_ ?_; exact rfl))); done) | (repeat (first | exact Ag.refl | exact Ag.ov | (refine Ag.upd ?_ ?_; exact rfl) | refine Ag.putn ?_ | (refine Ag.ovs ?_ ?_; exact rfl)))), (t.sp :: t.da).length - (k + 1), [(3, _), (18, .int .i64 ((k + 1 : Nat) : Int))], _, by omega, (by first | exact SubL.out | repeat (first | exact List.Sublist.refl _ | exact List.nil_sublist _ | refine .cons_cons _ ?_ | refine .cons _ ?_ | refine List.Sublist.append (List.Sublist.refl _) ?_ | exact List.sublist_append_left _ _ | refine List.Sublist.trans ?_ (List.sublist_append_right _ _))), (by repeat (first | exact .nil | refine .cons rfl ?_)), ⟨k + 1, _, _, by omega, hS4, rfl, rfl, rfl⟩⟩
    · have hS4 := nn_skip_osl hc23 hS3
      rw [← take_succ' hlt] at hS4
      refine c_skip ?_
      refine bq_n ?_
      refine tq_n ?_
      refine c_region ?_
      refine w_add rfl (by (conv => lhs; whnf); first | done | rfl) (by (conv => lhs; whnf); first | done | rfl) (by omega) ?_
      refine w_mov rfl (by (conv => lhs; whnf); first | done | rfl) ?_
      refine w_nil ?_
      refine tq_n ?_
      exact ⟨(by first | ((repeat (first | with_reducible exact Ag.refl | with_reducible exact Ag.ov | (with_reducible refine Ag.upd ?_ ?_; exact rfl) | with_reducible refine Ag.putn ?_ | (with_reducible refine Ag.ovs ?_ ?_; exact rfl))); done) | (repeat (first | exact Ag.refl | exact Ag.ov | (refine Ag.upd ?_ ?_; exact rfl) | refine Ag.putn ?_ | (refine Ag.ovs ?_ ?_; exact rfl)))), (t.sp :: t.da).length - (k + 1), [(3, _), (18, .int .i64 ((k + 1 : Nat) : Int))], _, by omega, (by first | exact SubL.out | repeat (first | exact List.Sublist.refl _ | exact List.nil_sublist _ | refine .cons_cons _ ?_ | refine .cons _ ?_ | refine List.Sublist.append (List.Sublist.refl _) ?_ | exact List.sublist_append_left _ _ | refine List.Sublist.trans ?_ (List.sublist_append_right _ _))), (by repeat (first | exact .nil | refine .cons rfl ?_)), ⟨k + 1, _, _, by omega, hS4, rfl, rfl, rfl⟩⟩
  · have hkk : k = (t.sp :: t.da).length := (by simp only [List.length_cons] at *; omega)
    rw [hkk, List.take_length] at hS3
    refine c_exit ?_
    refine tq_e ?_
    refine tq_e ?_
    refine bq_e ?_
    refine tq_n ?_
    refine c_seq ?_
    refine c_seq ?_
    refine c_region ?_
    refine x_fa rfl (by (conv => lhs; whnf); first | done | rfl) ?_
    refine x_ldo rfl (by (conv => lhs; whnf); first | done | rfl) (by first | exact HasC.out | exact PutC.out | repeat (first | exact .here | apply Has.there | apply Put.there | apply Has.app | apply Put.app)) (by (conv => lhs; whnf); first | done | rfl) ?_
    refine x_len rfl (by (conv => lhs; whnf); first | done | rfl) ?_
    refine w_mov rfl (by (conv => lhs; whnf); first | done | rfl) ?_
    refine w_nil ?_
    refine tq_n ?_
    refine c_block ?_
    refine c_loop_ov [33, 34, 35, 7, 36, 37, 38, 39, 40, 3, 41, 32] (fun m s L => ∃ (k : Nat) (v3 : Value) (S3 : Own), k ≤ t.lo.length ∧ OSl 3 1 v3 ((nn (t.sp :: t.da) ++ (t.lo.take k).map Lg.ph).map (Value.int .i64)) (nn (t.sp :: t.da) ++ (t.lo.take k).map Lg.ph).length S3 ∧ m = t.lo.length - k ∧ s = [(3, v3), (32, .int .i64 k)] ∧ L = S3 ++ [(b1, B 43 (cT t Ad cd Ah ch Al cl))]) (t.lo.length) [(3, v3), (32, .int .i64 (0 : Nat))] (by repeat (first | exact .nil | refine .cons rfl ?_)) (by first | exact SubL.out | repeat (first | exact List.Sublist.refl _ | exact List.nil_sublist _ | refine .cons_cons _ ?_ | refine .cons _ ?_ | refine List.Sublist.append (List.Sublist.refl _) ?_ | exact List.sublist_append_left _ _ | refine List.Sublist.trans ?_ (List.sublist_append_right _ _))) (⟨0, v3, S3, by omega, by simpa using hS3, by omega, rfl, rfl⟩) ?_
    rintro mI sI LI gL1 ⟨k, v3, S3, hk, hS3, rfl, rfl, rfl⟩
    refine c_seq ?_
    refine c_region ?_
    refine w_lss rfl (by (conv => lhs; whnf); first | done | rfl) (by (conv => lhs; whnf); first | done | rfl) ?_
    refine w_nil ?_
    refine tq_n ?_
    refine c_seq ?_
    refine c_cond_d (by (conv => lhs; whnf); first | done | rfl) (fun hc33 => ?_) (fun hc33 => ?_)
    · have hlt : k < t.lo.length := by omega
      obtain ⟨Ap, cp, hpc, hpl, hpA, hpR, hpI, hph, hpv⟩ := hlR k _ (getN hlt)
      refine c_skip ?_
      refine tq_n ?_
      refine c_seq ?_
      refine c_block ?_
      refine c_seq ?_
      refine c_region ?_
      refine x_ixA rfl (by (conv => lhs; whnf); first | done | rfl) (by (conv => lhs; whnf); first | done | rfl) (hlA (ne_of_lt hlt)) (by omega) (by omega) ?_
      refine x_lda (vs := [.int .i64 (t.lo[k]'hlt).ph, .slice Ap (t.lo[k]'hlt).pg.length cp]) rfl (by (conv => lhs; whnf); first | done | rfl) (rfl) (rd2 hph hpv) ?_
      refine x_al rfl ?_
      intro b7
      refine x_stw rfl (by (conv => lhs; whnf); first | done | rfl) (by (conv => lhs; whnf); first | done | rfl) rfl rfl (by first | exact HasC.out | exact PutC.out | repeat (first | exact .here | apply Has.there | apply Put.there | apply Has.app | apply Put.app)) rfl ?_
      refine w_nil ?_
      refine tq_n ?_
      refine c_region ?_
      refine w_mov rfl (by (conv => lhs; whnf); first | done | rfl) ?_
      refine x_fa rfl (by (conv => lhs; whnf); first | done | rfl) ?_
      refine x_ldo rfl (by (conv => lhs; whnf); first | done | rfl) (by first | exact HasC.out | exact PutC.out | repeat (first | exact .here | apply Has.there | apply Put.there | apply Has.app | apply Put.app)) (by (conv => lhs; whnf); first | done | rfl) ?_
      refine x_bs1 rfl (by (conv => lhs; whnf); first | done | rfl) rfl rfl rfl rfl ?_
      intro b39
      refine x_app rfl (by (conv => lhs; whnf); first | done | rfl) (by (conv => lhs; whnf); first | done | rfl) (perm2) (hS3) (xs_new (by first | exact HasC.out | exact PutC.out | repeat (first | exact .here | apply Has.there | apply Put.there | apply Has.app | apply Put.app))) (rfl) (rfl) (by have := nn_len (t.sp :: t.da); simp only [List.length_append, List.length_map, List.length_take, List.length_cons] at *; omega) (by decide) ?_
      rintro v5 S5 hS5
      refine w_asg rfl (by (conv => lhs; whnf); first | done | rfl) ?_
      refine w_nil ?_
      refine bq_n ?_
      refine tq_n ?_
      refine c_region ?_
      refine w_add rfl (by (conv => lhs; whnf); first | done | rfl) (by (conv => lhs; whnf); first | done | rfl) (by omega) ?_
      refine w_mov rfl (by (conv => lhs; whnf); first | done | rfl) ?_
      refine w_nil ?_
      refine tq_n ?_
      exact ⟨(by first | ((repeat (first | with_reducible exact Ag.refl | with_reducible exact Ag.ov | (with_reducible refine Ag.upd ?_ ?_; exact rfl) | with_reducible refine Ag.putn ?_ | (with_reducible refine Ag.ovs ?_ ?_; exact rfl))); done) | (repeat (first | exact Ag.refl | exact Ag.ov | (refine Ag.upd ?_ ?_; exact rfl) | refine Ag.putn ?_ | (refine Ag.ovs ?_ ?_; exact rfl)))), t.lo.length - (k + 1), [(3, _), (32, .int .i64 ((k + 1 : Nat) : Int))], _, by omega, (by first | exact SubL.out | repeat (first | exact List.Sublist.refl _ | exact List.nil_sublist _ | refine .cons_cons _ ?_ | refine .cons _ ?_ | refine List.Sublist.append (List.Sublist.refl _) ?_ | exact List.sublist_append_left _ _ | refine List.Sublist.trans ?_ (List.sublist_append_right _ _))), (by repeat (first | exact .nil | refine .cons rfl ?_)), ⟨k + 1, _, _, by omega, ph_snoc_osl hlt hS5, rfl, rfl, rfl⟩⟩
    · have hkk : k = t.lo.length := (by omega)
      rw [hkk, List.take_length] at hS3
      refine c_exit ?_
      refine tq_e ?_
      refine tq_e ?_
      refine bq_e ?_
      refine tq_n ?_
      refine c_seq ?_
      refine c_region ?_
      refine w_mov rfl (by (conv => lhs; whnf); first | done | rfl) ?_
      refine x_call (sort_g (xs := usedL t) hS3 (List.sublist_append_left _ _) (by unfold usedL; have := nn_len (t.sp :: t.da); simp only [List.length_append, List.length_map, List.length_cons] at *; omega) (List.Perm.refl _)) rfl rfl rfl ?_
      rintro _ _ ⟨rfl, S6, rfl, hS6⟩
      refine w_nil ?_
      refine tq_n ?_
      refine c_seq ?_
      refine c_region ?_
      refine w_mov rfl (by (conv => lhs; whnf); first | done | rfl) ?_
      refine w_asg rfl (by (conv => lhs; whnf); first | done | rfl) ?_
      refine w_nil ?_
      refine tq_n ?_
      refine c_ret ?_
      exact rq_r (ra_t (by (conv => lhs; whnf); first | done | rfl) .nil) (List.sublist_append_left _ _) (hS6)
theorem fresh_g {v : Value} {t : Tb} {x : Int} (h : TabR w0 L v t) (hm : May t) : Gives Try.prog w0 L 57 [v, .int .i64 x] (fun v' L' => v' = .bool (decide (frsh t x)) ∧ L' = L) := by
  refine enterP Try.func57 rfl Try.ntmps57 Try.results57 (Nat.le_of_ble_eq_true rfl) fun w hM => ?_
  have hT := h.at hM
  obtain ⟨vd, vh, vl, rfl, hd, hh, hlo⟩ := ((h).at hM).ex; obtain ⟨Ad, cd, rfl, hdc, hdl, hdA, hdR⟩ := id hd.ex; obtain ⟨Ah, ch, rfl, hhc, hhl, hhA, hhR⟩ := id hh.ex; obtain ⟨Al, cl, rfl, hlc, hll, hlA, hlR⟩ := LogR.opn hlo
  clear hM
  have hLi := hm.1
  have hGP := gp_le hLi.1.1
  have hG := hLi.1.2.1
  have hK := hLi.1.2.2.2
  have hK2 := hLi.1.1.2.2.2
  have hG2 := hLi.1.1.2.1.2
  have hul : (usedL t).length ≤ 1152921504606846976 := by unfold usedL; have := nn_len (t.sp :: t.da); simp only [List.length_append, List.length_map, List.length_cons] at *; omega
  refine c_seq ?_
  refine c_region ?_
  refine x_boxa rfl (by (conv => lhs; whnf); first | done | rfl) ?_
  intro b2
  refine w_asg rfl (by (conv => lhs; whnf); first | done | rfl) ?_
  refine w_nil ?_
  refine tq_n ?_
  refine c_seq ?_
  refine c_region_js [5, 6, 7, 8, 9, 10, 11, 12, 13, 4] 4 (.bool (decide (frsh t x))) ?_ (fun g1 => ?_)
  · all_goals (refine w_mov rfl (by (conv => lhs; whnf); first | done | rfl) ?_)
    all_goals (refine x_callp (by decide) (inRange_g _ _ _) rfl rfl rfl ?_)
    all_goals (refine w_mov rfl (by (conv => lhs; whnf); first | done | rfl) ?_)
    all_goals (first | refine w_lit true rfl rfl rfl ?_ | refine w_lit false rfl rfl rfl ?_ | refine w_cases_od rfl rfl rfl (fun hg => ?_) (fun hg => ?_) | refine w_cases_o rfl rfl rfl (fun hg => ?_) (fun hg => ?_) | skip)
    all_goals (first | refine w_skip rfl ?_ | (refine x_ldao rfl (by (conv => lhs; whnf); first | done | rfl) (by first | exact HasC.out | exact PutC.out | repeat (first | exact .here | apply Has.there | apply Put.there | apply Has.app | apply Put.app)) rfl ?_))
    all_goals (first | refine w_skip rfl ?_ | (refine x_call (used_g (hT.sub (List.nil_sublist _)) hm) rfl rfl rfl ?_; rintro _ _ ⟨S104, rfl, hS104⟩))
    all_goals (first | refine w_skip rfl ?_ | (refine w_mov rfl (by (conv => lhs; whnf); first | done | rfl) ?_))
    all_goals (first | refine w_skip rfl ?_ | (refine x_callp (by decide) (contains_g (xs := srt (usedL t)) (SlR.ofOSl (by rw [flatI]; exact hS104) len_srt hul (List.sublist_append_left _ _))) rfl rfl rfl ?_))
    all_goals (first | refine w_skip rfl ?_ | (refine w_notd rfl (by (conv => lhs; whnf); first | done | rfl) ?_))
    all_goals (first | refine w_pick_t rfl rfl (by (conv => lhs; whnf); first | done | rfl) ?_ | refine w_pick_f rfl rfl (by (conv => lhs; whnf); first | done | rfl) ?_)
    all_goals (refine w_asg rfl (by (conv => lhs; whnf); first | done | rfl) ?_)
    all_goals (refine w_nil ?_)
    all_goals (refine jns (by first | exact (Ag.upd rfl (Ag.upd rfl (Ag.upd rfl (Ag.upd rfl (Ag.upd rfl (Ag.upd rfl (Ag.upd rfl (Ag.upd rfl (Ag.upd rfl (Ag.upd rfl Ag.refl)))))))))) | exact (by first | ((repeat (first | with_reducible exact Ag.refl | with_reducible exact Ag.ov | (with_reducible refine Ag.upd ?_ ?_; exact rfl) | with_reducible refine Ag.putn ?_ | (with_reducible refine Ag.ovs ?_ ?_; exact rfl))); done) | (repeat (first | exact Ag.refl | exact Ag.ov | (refine Ag.upd ?_ ?_; exact rfl) | refine Ag.putn ?_ | (refine Ag.ovs ?_ ?_; exact rfl))))) (by (conv => lhs; whnf); first | done | rfl) (by first | exact SubL.out | repeat (first | exact List.Sublist.refl _ | exact List.nil_sublist _ | refine .cons_cons _ ?_ | refine .cons _ ?_ | refine List.Sublist.append (List.Sublist.refl _) ?_ | exact List.sublist_append_left _ _ | refine List.Sublist.trans ?_ (List.sublist_append_right _ _))) ?_)
    all_goals (exact congrArg Value.bool (by first | (refine decide_eq_decide.2 ?_; unfold frsh; rw [mem_srt]; exact ⟨fun h => ⟨hg, h⟩, fun h => h.2⟩) | (refine (decide_eq_false ?_).symm; exact fun h => hg h.1)))
  refine tq_n ?_
  refine c_ret ?_
  exact rq_r (ra_t (by (conv => lhs; whnf); first | done | rfl) .nil) (List.nil_sublist _) (⟨rfl, rfl⟩)
end
end Go.Proofs.Ytnmhhelcaibdoaa.Pl
