/- plan.settle, walked. -/
import Derived.Test.YtnmhhelcaibdoaaVc
namespace Go.Proofs.Ytnmhhelcaibdoaa.Pl
open Go Go.RowKit Sl
set_option linter.unusedVariables false
set_option linter.unusedSimpArgs false
theorem Gives.permL {P : Program} {w0 : World} {L L' : Own} {k : Nat} {args : List Value} {R : Value → Own → Prop} (h : Gives P w0 L' k args R) (hp : L.Perm L') : Gives P w0 L k args R := fun w hM => h w (hM.perm hp)
theorem usedL_len {t : Tb} (h : Lists t) : (usedL t).length ≤ 8192 := by
  have hG := h.1.2.1
  have hK := h.1.2.2.2
  have h1 := h.1.1
  have := nn_len (t.sp :: t.da)
  unfold usedL
  simp only [List.length_append, List.length_map, List.length_cons] at *
  omega
theorem srt_osl {v : Value} {xs : List Int} {S : Own} (h : OSl 3 1 v ((srt xs).map (Value.int .i64)) xs.length S) : OSl 3 1 v ((srt xs).map (Value.int .i64)) (srt xs).length S := by rw [len_srt]; exact h
theorem lg_bd {t : Tb} (h : Lists t) {x : Int} (hx : ∃ l ∈ t.lo, x ∈ l.pg) : x ≤ 8192 := by
  obtain ⟨l, hl, hx⟩ := hx
  obtain ⟨i, hi, rfl⟩ := List.mem_iff_getElem.1 hl
  have h1 := (h.2.1 i _ (getN hi)).2.2 x hx
  have h2 := gp_le h.1.1
  omega
theorem cpf_of {w0 : World} {M : Own} {b5 b3 b4 : Nat} {a b : Int} {t : Tb} {Ad Ah Al : Option Addr} {cd ch cl : Nat} (h5 : Has M b5 (B 3 [.int .i64 a])) (h4 : Has M b4 (B 3 [.int .i64 b])) (h3 : Has M b3 (B 43 (cT t Ad cd Ah ch Al cl))) (ht : TabR w0 M (.agg (cT t Ad cd Ah ch Al cl).toArray) t) : CpF w0 M b5 b3 b4 a b t Ad cd Ah ch Al cl :=
  ⟨Rd.own h5 rfl, fun i v hv => by rw [addr_add, Nat.zero_add]; exact Rd.own h3 hv, Rd.own h4 rfl, ht⟩
theorem hv_next {P : Int} {pre : List Cpy} {x : Cpy} (h0 : 0 ≤ x.2) : ((hvL P pre).map Value.bool).set (0 + x.2.toNat * 1) (.bool true) = (hvL P (pre ++ [x])).map Value.bool := by
  rw [hvL_snoc h0, List.map_set, Nat.zero_add, Nat.mul_one]
section
variable {w0 : World} {L : Own}
set_option maxHeartbeats 4000000 in
theorem settle_g {v : Value} {t : Tb} {b ph : Int} (h : TabR w0 L v t) (hm : May t) (hb0 : 0 ≤ b) (hb1 : b ≤ t.G - 1) (hm' : May (setT t b ph)) : Gives Try.prog w0 L 71 [v, .int .i64 b, .int .i64 ph] (fun v' L' => ∃ S, L' = S ++ L ∧ ∃ tv lv, v' = .tuple #[tv, lv] ∧ lv.oneCell' = true ∧ TabO S tv (setT t b ph) ∧ FL S lv (goneL t (setT t b ph))) := by
  refine enterMB (R := fun v' S => ∃ tv lv, v' = .tuple #[tv, lv] ∧ lv.oneCell' = true ∧ TabO S tv (setT t b ph) ∧ FL S lv (goneL t (setT t b ph))) Try.func71 rfl Try.ntmps71 Try.results71 (Nat.le_of_ble_eq_true rfl) fun w hM => ?_
  have hT := h.at hM
  obtain ⟨vd, vh, vl, rfl, hd, hh, hlo⟩ := ((h).at hM).ex; obtain ⟨Ad, cd, rfl, hdc, hdl, hdA, hdR⟩ := id hd.ex; obtain ⟨Ah, ch, rfl, hhc, hhl, hhA, hhR⟩ := id hh.ex; obtain ⟨Al, cl, rfl, hlc, hll, hlA, hlR⟩ := LogR.opn hlo
  clear hM
  have hLi := hm.1
  have hcl := hLi.cl
  have hP : 4 ≤ t.P := hLi.1.1.1.1
  have hP2 := hLi.1.1.1.2
  have hGP := gp_le hLi.1.1
  have hG := hLi.1.2.1
  have hH := hLi.1.2.2.1
  have hG2 := hLi.1.1.2.1
  have hul := usedL_len hLi
  have hpin := pg_in hLi hb0 hb1 (Int.le_refl 0) (show 0 < t.P by omega)
  have hend := pg_in hLi hb0 hb1 (show 0 ≤ t.P - 1 by omega) (show t.P - 1 < t.P by omega)
  refine m_seq ?_
  refine c_region ?_
  refine x_boxa rfl (by (conv => lhs; whnf); first | done | rfl) ?_
  intro b3
  refine x_box1 rfl (by (conv => lhs; whnf); first | done | rfl) rfl ?_
  intro b4
  refine x_al rfl ?_
  intro b6
  refine w_asg rfl (by (conv => lhs; whnf); first | done | rfl) ?_
  refine w_nil ?_
  refine tm_n ?_
  refine m_seq ?_
  refine c_region ?_
  refine x_ldao rfl (by (conv => lhs; whnf); first | done | rfl) (by first | exact HasC.out | exact PutC.out | repeat (first | exact .here | apply Has.there | apply Put.there | apply Has.app | apply Put.app)) rfl ?_
  refine x_call (used_g (hT.sub (List.nil_sublist _)) hm) rfl rfl rfl ?_
  rintro _ _ ⟨S8, rfl, hS8⟩
  refine w_asg rfl (by (conv => lhs; whnf); first | done | rfl) ?_
  refine w_nil ?_
  refine tm_n ?_
  refine m_seq ?_
  refine c_region ?_
  refine x_ldao rfl (by (conv => lhs; whnf); first | done | rfl) (by first | exact HasC.out | exact PutC.out | repeat (first | exact .here | apply Has.there | apply Put.there | apply Has.app | apply Put.app)) rfl ?_
  refine x_call (clone_g (hT.sub (List.nil_sublist _)) hcl) rfl rfl rfl ?_
  rintro _ _ ⟨S, rfl, Sv, Sp, Sd, Sh, rfl, vd2, vh2, vl2, lv, rfl, g1, g2, g3, g4⟩
  obtain ⟨bD, spD, cD, rfl, rfl, hlD, hcD, hsD⟩ := OSl.ne g1 (by omega)
  obtain ⟨bH, spH, cH, rfl, rfl, hlH, hcH, hsH⟩ := OSl.ne g2 (by omega)
  obtain ⟨Al2, cl2, rfl, hcl2, hAl, hRl⟩ := logs_opn g3 g4.len hcl.2.2.1
  simp only [List.append_assoc, List.cons_append, List.nil_append]
  refine x_stw rfl (by (conv => lhs; whnf); first | done | rfl) (by (conv => lhs; whnf); first | done | rfl) rfl rfl (by first | exact HasC.out | exact PutC.out | repeat (first | exact .here | apply Has.there | apply Put.there | apply Has.app | apply Put.app)) rfl ?_
  refine w_nil ?_
  refine tm_n ?_
  refine m_seq ?_
  refine c_region ?_
  refine x_fa rfl (by (conv => lhs; whnf); first | done | rfl) ?_
  refine x_ldo rfl (by (conv => lhs; whnf); first | done | rfl) (by first | exact HasC.out | exact PutC.out | repeat (first | exact .here | apply Has.there | apply Put.there | apply Has.app | apply Put.app)) (by (conv => lhs; whnf); first | done | rfl) ?_
  refine x_mk rfl (by (conv => lhs; whnf); first | done | rfl) (by (conv => lhs; whnf); first | done | rfl) (by omega) (by omega) (by decide) ?_
  intro b18
  refine x_al rfl ?_
  intro b9
  refine x_st1 rfl (by (conv => lhs; whnf); first | done | rfl) (by (conv => lhs; whnf); first | done | rfl) rfl (by first | exact HasC.out | exact PutC.out | repeat (first | exact .here | apply Has.there | apply Put.there | apply Has.app | apply Put.app)) rfl ?_
  refine w_nil ?_
  refine tm_n ?_
  refine m_seqT ?_
  refine t_seq ?_
  refine c_region ?_
  refine x_ldao rfl (by (conv => lhs; whnf); first | done | rfl) (by first | exact HasC.out | exact PutC.out | repeat (first | exact .here | apply Has.there | apply Put.there | apply Has.app | apply Put.app)) rfl ?_
  refine x_ldo rfl (by (conv => lhs; whnf); first | done | rfl) (by first | exact HasC.out | exact PutC.out | repeat (first | exact .here | apply Has.there | apply Put.there | apply Has.app | apply Put.app)) (by (conv => lhs; whnf); first | done | rfl) ?_
  refine x_call (copies_g) rfl rfl rfl ?_
  rintro _ _ ⟨b30, b40, b50, rfl, rfl⟩
  refine w_nil ?_
  refine tm_n ?_
  refine m_range (enC) (cpL t b 0 t.P) (fun pre M => M = (b50, B 3 [.int .i64 0]) :: (b40, B 3 [.int .i64 b]) :: (b30, B 43 (cT t (some ⟨bD, 0, none⟩) cD (some ⟨bH, 0, none⟩) cH Al2 cl2)) :: (b9, B 38 [.slice (some ⟨b18, 0, none⟩) t.P.toNat t.P.toNat]) :: (b18, B 4 ((hvL t.P pre).map Value.bool)) :: (Sv ++ (Sp ++ ((bD, B 3 (t.da.flatMap Sl.encI ++ spD)) :: (bH, B 4 (t.ha.flatMap Sl.encB ++ spH)) :: (S8 ++ [(b6, B 43 zT), (b4, B 3 [.int .i64 b]), (b3, B 43 (cT t (some ⟨bD, 0, none⟩) cD (some ⟨bH, 0, none⟩) cH Al2 cl2))]))))) (by (conv => lhs; whnf); first | done | rfl) CFN.out (fun _ => rfl) (⟨_, List.Perm.refl _, List.Sublist.refl _⟩) (by rw [hvL_nil]; simp [zT]) (fun w0 l J hJ hy => copies1_g hLi hb0 hb1 (Int.le_refl 0) (by omega) (fun pre M hM => by obtain ⟨L1, hs, rfl⟩ := hJ pre M hM; exact (cpf_of (by first | exact HasC.out | exact PutC.out | repeat (first | exact .here | apply Has.there | apply Put.there | apply Has.app | apply Put.app)) (by first | exact HasC.out | exact PutC.out | repeat (first | exact .here | apply Has.there | apply Put.there | apply Has.app | apply Put.app)) (by first | exact HasC.out | exact PutC.out | repeat (first | exact .here | apply Has.there | apply Put.there | apply Has.app | apply Put.app)) ((tabO_tw (S := Sv ++ (Sp ++ [(bD, _), (bH, _)])) hcl g1 g2 g3 g4 (by first | exact SubL.out | repeat (first | exact List.Sublist.refl _ | exact List.nil_sublist _ | refine .cons_cons _ ?_ | refine .cons _ ?_ | refine List.Sublist.append (List.Sublist.refl _) ?_ | exact List.sublist_append_left _ _ | refine List.Sublist.trans ?_ (List.sublist_append_right _ _))) (by first | exact SubL.out | repeat (first | exact List.Sublist.refl _ | exact List.nil_sublist _ | refine .cons_cons _ ?_ | refine .cons _ ?_ | refine List.Sublist.append (List.Sublist.refl _) ?_ | exact List.sublist_append_left _ _ | refine List.Sublist.trans ?_ (List.sublist_append_right _ _))) (by first | exact SubL.out | repeat (first | exact List.Sublist.refl _ | exact List.nil_sublist _ | refine .cons_cons _ ?_ | refine .cons _ ?_ | refine List.Sublist.append (List.Sublist.refl _) ?_ | exact List.sublist_append_left _ _ | refine List.Sublist.trans ?_ (List.sublist_append_right _ _))) (by first | exact SubL.out | repeat (first | exact List.Sublist.refl _ | exact List.nil_sublist _ | refine .cons_cons _ ?_ | refine .cons _ ?_ | refine List.Sublist.append (List.Sublist.refl _) ?_ | exact List.sublist_append_left _ _ | refine List.Sublist.trans ?_ (List.sublist_append_right _ _)))).use (by first | exact SubL.out | repeat (first | exact List.Sublist.refl _ | exact List.nil_sublist _ | refine .cons_cons _ ?_ | refine .cons _ ?_ | refine List.Sublist.append (List.Sublist.refl _) ?_ | exact List.sublist_append_left _ _ | refine List.Sublist.trans ?_ (List.sublist_append_right _ _))))).sub hs) hy) ?_ ?_
  · intro l o o2 x0 pre x L1 hpre
    rintro rfl
    refine rnd ?_
    have hxm := cpL_mem (hpre.subset (List.mem_append_right pre (List.mem_singleton.2 rfl)))
    refine c_region ?_
    refine x_al rfl ?_
    intro b10
    refine x_stw rfl (by (conv => lhs; whnf); first | done | rfl) (by (conv => lhs; whnf); first | done | rfl) rfl rfl (by first | exact HasC.out | exact PutC.out | repeat (first | exact .here | apply Has.there | apply Put.there | apply Has.app | apply Put.app)) rfl ?_
    refine w_nil ?_
    refine asg_n ?_
    refine c_block ?_
    refine c_region ?_
    refine x_ldo rfl (by (conv => lhs; whnf); first | done | rfl) (by first | exact HasC.out | exact PutC.out | repeat (first | exact .here | apply Has.there | apply Put.there | apply Has.app | apply Put.app)) (by (conv => lhs; whnf); first | done | rfl) ?_
    refine x_fa rfl (by (conv => lhs; whnf); first | done | rfl) ?_
    refine x_ldo rfl (by (conv => lhs; whnf); first | done | rfl) (by first | exact HasC.out | exact PutC.out | repeat (first | exact .here | apply Has.there | apply Put.there | apply Has.app | apply Put.app)) (by (conv => lhs; whnf); first | done | rfl) ?_
    refine x_ix rfl (by (conv => lhs; whnf); first | done | rfl) (by (conv => lhs; whnf); first | done | rfl) (by omega) (by omega) ?_
    refine x_sts rfl (by (conv => lhs; whnf); first | done | rfl) (by (conv => lhs; whnf); first | done | rfl) (rfl) ((by first | exact HasC.out | exact PutC.out | repeat (first | exact .here | apply Has.there | apply Put.there | apply Has.app | apply Put.app))) (by rw [List.length_map, hvL_len]; omega) ?_
    refine w_nil ?_
    refine bq_n ?_
    refine bod_n ?_
    exact ⟨_, in_x (List.sublist_cons_self _ _), by rw [← hv_next hxm.1]⟩
  · intro d L1
    rintro rfl
    refine CM.weak ?_ (in_sp (A' := [(d, dfo), (b9, B 38 [.slice (some ⟨b18, 0, none⟩) t.P.toNat t.P.toNat]), (b18, B 4 ((hvL t.P (cpL t b 0 t.P)).map Value.bool))] ++ (Sv ++ (Sp ++ ([(bD, B 3 (t.da.flatMap Sl.encI ++ spD))] ++ ([(bH, B 4 (t.ha.flatMap Sl.encB ++ spH))] ++ (S8 ++ [(b6, B 43 zT), (b4, B 3 [.int .i64 b]), (b3, B 43 (cT t (some ⟨bD, 0, none⟩) cD (some ⟨bH, 0, none⟩) cH Al2 cl2))])))))) (by first | exact SubL.out | repeat (first | exact List.Sublist.refl _ | exact List.nil_sublist _ | refine .cons_cons _ ?_ | refine .cons _ ?_ | refine List.Sublist.append (List.Sublist.refl _) ?_ | exact List.sublist_append_left _ _ | refine List.Sublist.trans ?_ (List.sublist_append_right _ _))) perm_fr)
    simp only [List.cons_append, List.nil_append]
    refine m_seq ?_
    refine d_begin_s ((show List.Sublist [(b9, B 38 [.slice (some ⟨b18, 0, none⟩) t.P.toNat t.P.toNat]), (b4, B 3 [.int .i64 b]), (b3, B 43 (cT t (some ⟨bD, 0, none⟩) cD (some ⟨bH, 0, none⟩) cH Al2 cl2))] _ from (by first | exact SubL.out | repeat (first | exact List.Sublist.refl _ | exact List.nil_sublist _ | refine .cons_cons _ ?_ | refine .cons _ ?_ | refine List.Sublist.append (List.Sublist.refl _) ?_ | exact List.sublist_append_left _ _ | refine List.Sublist.trans ?_ (List.sublist_append_right _ _))))) [] mixed ?_
    refine d_tk0 0 (np_thenm np_ret) rfl (by kernel_rfl) (by kernel_rfl) (by kernel_rfl) (by kernel_rfl) (.inl (by first | exact SubL.out | repeat (first | exact List.Sublist.refl _ | exact List.nil_sublist _ | refine .cons_cons _ ?_ | refine .cons _ ?_ | refine List.Sublist.append (List.Sublist.refl _) ?_ | exact List.sublist_append_left _ _ | refine List.Sublist.trans ?_ (List.sublist_append_right _ _)))) ?_
    refine x_fa rfl (by (conv => lhs; whnf); first | done | rfl) ?_
    refine w_nil ⟨rfl, rfl, ?_⟩
    refine d_tk 1 (np_thenm np_ret) rfl (by kernel_rfl) (by kernel_rfl) (by kernel_rfl) (by kernel_rfl) (by kernel_rfl) (by first | exact SubL.out | repeat (first | exact List.Sublist.refl _ | exact List.nil_sublist _ | refine .cons_cons _ ?_ | refine .cons _ ?_ | refine List.Sublist.append (List.Sublist.refl _) ?_ | exact List.sublist_append_left _ _ | refine List.Sublist.trans ?_ (List.sublist_append_right _ _))) ?_
    refine x_ldo rfl (by (conv => lhs; whnf); first | done | rfl) (by first | exact HasC.out | exact PutC.out | repeat (first | exact .here | apply Has.there | apply Put.there | apply Has.app | apply Put.app)) (by (conv => lhs; whnf); first | done | rfl) ?_
    refine w_nil ⟨rfl, rfl, ?_⟩
    refine d_tk 2 (np_thenm np_ret) rfl (by kernel_rfl) (by kernel_rfl) (by kernel_rfl) (by kernel_rfl) (by kernel_rfl) (by first | exact SubL.out | repeat (first | exact List.Sublist.refl _ | exact List.nil_sublist _ | refine .cons_cons _ ?_ | refine .cons _ ?_ | refine List.Sublist.append (List.Sublist.refl _) ?_ | exact List.sublist_append_left _ _ | refine List.Sublist.trans ?_ (List.sublist_append_right _ _))) ?_
    refine x_ldo rfl (by (conv => lhs; whnf); first | done | rfl) (by first | exact HasC.out | exact PutC.out | repeat (first | exact .here | apply Has.there | apply Put.there | apply Has.app | apply Put.app)) (by (conv => lhs; whnf); first | done | rfl) ?_
    refine w_nil ⟨rfl, rfl, ?_⟩
    refine d_tk0 3 (np_thenm np_ret) rfl (by kernel_rfl) (by kernel_rfl) (by kernel_rfl) (by kernel_rfl) (.inl (by first | exact SubL.out | repeat (first | exact List.Sublist.refl _ | exact List.nil_sublist _ | refine .cons_cons _ ?_ | refine .cons _ ?_ | refine List.Sublist.append (List.Sublist.refl _) ?_ | exact List.sublist_append_left _ _ | refine List.Sublist.trans ?_ (List.sublist_append_right _ _)))) ?_
    refine x_fa rfl (by (conv => lhs; whnf); first | done | rfl) ?_
    refine w_nil ⟨rfl, rfl, ?_⟩
    refine d_tk 4 (np_thenm np_ret) rfl (by kernel_rfl) (by kernel_rfl) (by kernel_rfl) (by kernel_rfl) (by kernel_rfl) (by first | exact SubL.out | repeat (first | exact List.Sublist.refl _ | exact List.nil_sublist _ | refine .cons_cons _ ?_ | refine .cons _ ?_ | refine List.Sublist.append (List.Sublist.refl _) ?_ | exact List.sublist_append_left _ _ | refine List.Sublist.trans ?_ (List.sublist_append_right _ _))) ?_
    refine x_ldo rfl (by (conv => lhs; whnf); first | done | rfl) (by first | exact HasC.out | exact PutC.out | repeat (first | exact .here | apply Has.there | apply Put.there | apply Has.app | apply Put.app)) (by (conv => lhs; whnf); first | done | rfl) ?_
    refine w_nil ⟨rfl, rfl, ?_⟩
    refine d_tk0 5 (np_thenm np_ret) rfl (by kernel_rfl) (by kernel_rfl) (by kernel_rfl) (by kernel_rfl) (.inl (by first | exact SubL.out | repeat (first | exact List.Sublist.refl _ | exact List.nil_sublist _ | refine .cons_cons _ ?_ | refine .cons _ ?_ | refine List.Sublist.append (List.Sublist.refl _) ?_ | exact List.sublist_append_left _ _ | refine List.Sublist.trans ?_ (List.sublist_append_right _ _)))) ?_
    refine w_mul rfl (by (conv => lhs; whnf); first | done | rfl) (by (conv => lhs; whnf); first | done | rfl) (by omega) ?_
    refine w_nil ⟨rfl, rfl, ?_⟩
    refine d_tk0 6 (np_thenm np_ret) rfl (by kernel_rfl) (by kernel_rfl) (by kernel_rfl) (by kernel_rfl) (.inl (by first | exact SubL.out | repeat (first | exact List.Sublist.refl _ | exact List.nil_sublist _ | refine .cons_cons _ ?_ | refine .cons _ ?_ | refine List.Sublist.append (List.Sublist.refl _) ?_ | exact List.sublist_append_left _ _ | refine List.Sublist.trans ?_ (List.sublist_append_right _ _)))) ?_
    refine x_slo (l := (b * t.P).toNat) (h := t.ha.length) rfl (by (conv => lhs; whnf); first | done | rfl) (⟨congrArg (Value.int .i64) (Int.toNat_of_nonneg hpin.1.1).symm, rfl⟩) (by omega) (by omega) (by omega) ?_
    refine w_nil ⟨rfl, rfl, ?_⟩
    refine d_tk 7 (np_thenm np_ret) rfl (by kernel_rfl) (by kernel_rfl) (by kernel_rfl) (by kernel_rfl) (by kernel_rfl) (by first | exact SubL.out | repeat (first | exact List.Sublist.refl _ | exact List.nil_sublist _ | refine .cons_cons _ ?_ | refine .cons _ ?_ | refine List.Sublist.append (List.Sublist.refl _) ?_ | exact List.sublist_append_left _ _ | refine List.Sublist.trans ?_ (List.sublist_append_right _ _))) ?_
    refine x_ldo rfl (by (conv => lhs; whnf); first | done | rfl) (by first | exact HasC.out | exact PutC.out | repeat (first | exact .here | apply Has.there | apply Put.there | apply Has.app | apply Put.app)) (by (conv => lhs; whnf); first | done | rfl) ?_
    refine w_nil ⟨rfl, rfl, ?_⟩
    refine d_one 8 rfl (by kernel_rfl) ?_
    refine x_cp rfl (by (conv => lhs; whnf); first | done | rfl) (by (conv => lhs; whnf); first | done | rfl) (xs_new (by first | exact HasC.out | exact PutC.out | repeat (first | exact .here | apply Has.there | apply Put.there | apply Has.app | apply Put.app))) (by simp [hvL_len]) (by simp [Value.oneCell']) ((by first | exact HasC.out | exact PutC.out | repeat (first | exact .here | apply Has.there | apply Put.there | apply Has.app | apply Put.app))) (by simp [flatB]; omega) ?_
    refine w_nil ⟨rfl, (.inl (by first | exact SubL.out | repeat (first | exact List.Sublist.refl _ | exact List.nil_sublist _ | refine .cons_cons _ ?_ | refine .cons _ ?_ | refine List.Sublist.append (List.Sublist.refl _) ?_ | exact List.sublist_append_left _ _ | refine List.Sublist.trans ?_ (List.sublist_append_right _ _)))), ?_⟩
    refine d_done (by kernel_rfl) ?_
    refine tm_n ?_
    refine m_seq ?_
    refine c_region ?_
    refine x_fa rfl (by (conv => lhs; whnf); first | done | rfl) ?_
    refine x_ldo rfl (by (conv => lhs; whnf); first | done | rfl) (by first | exact HasC.out | exact PutC.out | repeat (first | exact .here | apply Has.there | apply Put.there | apply Has.app | apply Put.app)) (by (conv => lhs; whnf); first | done | rfl) ?_
    refine x_ldo rfl (by (conv => lhs; whnf); first | done | rfl) (by first | exact HasC.out | exact PutC.out | repeat (first | exact .here | apply Has.there | apply Put.there | apply Has.app | apply Put.app)) (by (conv => lhs; whnf); first | done | rfl) ?_
    refine w_mov rfl (by (conv => lhs; whnf); first | done | rfl) ?_
    refine x_ix rfl (by (conv => lhs; whnf); first | done | rfl) (by (conv => lhs; whnf); first | done | rfl) (by omega) (by omega) ?_
    refine x_sts rfl (by (conv => lhs; whnf); first | done | rfl) (by (conv => lhs; whnf); first | done | rfl) (rfl) ((by first | exact HasC.out | exact PutC.out | repeat (first | exact .here | apply Has.there | apply Put.there | apply Has.app | apply Put.app))) (by simp [flatI]; omega) ?_
    refine w_nil ?_
    have gH := have_osl (ha := t.ha) (hv := hvL t.P (cpL t b 0 t.P)) (o := (b * t.P).toNat) (b := bH) (cap := cH) (sp := spH) (by rw [hvL_len]; omega) hcH hsH (dl := t.ha.length - (b * t.P).toNat) (by rw [hvL_len]; omega)
    rw [hvL_len, hvL_all] at gH
    rw [hvL_all]
    have gD := data_osl (da := t.da) (o := b.toNat) (b := bD) (cap := cD) (x := ph) (sp := spD) (by omega) hcD hsD
    refine tm_n ?_
    refine m_seq ?_
    refine c_region ?_
    refine x_ldao rfl (by (conv => lhs; whnf); first | done | rfl) (by first | exact HasC.out | exact PutC.out | repeat (first | exact .here | apply Has.there | apply Put.there | apply Has.app | apply Put.app)) rfl ?_
    refine x_fun rfl .nil (.cons (by (conv => lhs; whnf); first | done | rfl) (.cons (by (conv => lhs; whnf); first | done | rfl) .nil)) ?_
    refine x_call (forget_g (kf := 111) (cap := #[.pointer (some ⟨b3, 0, none⟩), .pointer (some ⟨b4, 0, none⟩)]) (φ := inBk t.P b) ⟨_, _, _, rfl⟩ ⟨_, _, _, rfl⟩ hcl.2.2.1 g3 g4 (fun x L' hx hxm hs => settle1_g hx (lg_bd hLi hxm) (by omega) (Rd.sub (Rd.own (by first | exact HasC.out | exact PutC.out | repeat (first | exact .here | apply Has.there | apply Put.there | apply Has.app | apply Put.app)) rfl) hs) (Rd.sub (Rd.own (by first | exact HasC.out | exact PutC.out | repeat (first | exact .here | apply Has.there | apply Put.there | apply Has.app | apply Put.app)) rfl) hs))) rfl rfl rfl ?_
    rintro _ _ ⟨rfl, Sp', rfl, hW⟩
    refine w_nil ?_
    refine tm_n ?_
    refine m_mid_ov [44, 45, 46, 47, 48, 49, 50, 51, 52, 53, 54, 55, 56] (fun s L => ∃ oD oH, s = [] ∧ OSl 4 1 (.slice (some ⟨bH, 0, none⟩) t.ha.length cH) ((setT t b ph).ha.flatMap Sl.encB) (setT t b ph).ha.length [(bH, oH)] ∧ OSl 3 1 (.slice (some ⟨bD, 0, none⟩) t.da.length cD) ((setT t b ph).da.flatMap Sl.encI) (setT t b ph).da.length [(bD, oD)] ∧ L = Sv ++ (Sp' ++ ((bD, oD) :: (bH, oH) :: (d, dfo) :: (b9, B 38 [.slice (some ⟨b18, 0, none⟩) t.P.toNat t.P.toNat]) :: (b18, B 4 ((hvF t b).map Value.bool)) :: (S8 ++ [(b6, B 43 zT), (b4, B 3 [.int .i64 b]), (b3, B 43 [.int .i64 t.P, .int .i64 t.G, .int .i64 t.K, .slice (some ⟨bD, 0, none⟩) t.da.length cD, .slice (some ⟨bH, 0, none⟩) t.ha.length cH, .int .i64 (setT t b ph).sp, .int .i64 (setT t b ph).sl, .int .i64 (setT t b ph).su, .slice Al2 t.lo.length cl2])])))) ?_ ?_
    · refine c_seq ?_
      refine c_region_j [44, 45, 46, 47, 48, 49, 50, 51, 52, 53, 54] 54 (.bool (decide (0 ≤ t.sp ∧ t.sl = b))) ?_ (fun g10 => ?_)
      · all_goals (refine x_fa rfl (by (conv => lhs; whnf); first | done | rfl) ?_)
        all_goals (refine x_fa rfl (by (conv => lhs; whnf); first | done | rfl) ?_)
        all_goals (refine x_ldo rfl (by (conv => lhs; whnf); first | done | rfl) (by first | exact HasC.out | exact PutC.out | repeat (first | exact .here | apply Has.there | apply Put.there | apply Has.app | apply Put.app)) (by (conv => lhs; whnf); first | done | rfl) ?_)
        all_goals (refine w_geq rfl (by (conv => lhs; whnf); first | done | rfl) (by (conv => lhs; whnf); first | done | rfl) ?_)
        all_goals (refine w_mov rfl (by (conv => lhs; whnf); first | done | rfl) ?_)
        all_goals (first | refine w_lit true rfl rfl rfl ?_ | refine w_lit false rfl rfl rfl ?_ | refine w_cases_od rfl rfl rfl (fun hg => ?_) (fun hg => ?_) | refine w_cases_o rfl rfl rfl (fun hg => ?_) (fun hg => ?_) | skip)
        all_goals (first | refine w_skip rfl ?_ | (refine x_fa rfl (by (conv => lhs; whnf); first | done | rfl) ?_))
        all_goals (first | refine w_skip rfl ?_ | (refine x_fa rfl (by (conv => lhs; whnf); first | done | rfl) ?_))
        all_goals (first | refine w_skip rfl ?_ | (refine x_ldo rfl (by (conv => lhs; whnf); first | done | rfl) (by first | exact HasC.out | exact PutC.out | repeat (first | exact .here | apply Has.there | apply Put.there | apply Has.app | apply Put.app)) (by (conv => lhs; whnf); first | done | rfl) ?_))
        all_goals (first | refine w_skip rfl ?_ | (refine x_ldo rfl (by (conv => lhs; whnf); first | done | rfl) (by first | exact HasC.out | exact PutC.out | repeat (first | exact .here | apply Has.there | apply Put.there | apply Has.app | apply Put.app)) (by (conv => lhs; whnf); first | done | rfl) ?_))
        all_goals (first | refine w_skip rfl ?_ | (refine w_eql rfl (by (conv => lhs; whnf); first | done | rfl) (by (conv => lhs; whnf); first | done | rfl) ?_))
        all_goals (first | refine w_pick_t rfl rfl (by (conv => lhs; whnf); first | done | rfl) ?_ | refine w_pick_f rfl rfl (by (conv => lhs; whnf); first | done | rfl) ?_)
        all_goals (refine w_nil ?_)
        all_goals (refine jn (by first | exact (Ag.upd rfl (Ag.upd rfl (Ag.upd rfl (Ag.upd rfl (Ag.upd rfl (Ag.upd rfl (Ag.upd rfl (Ag.upd rfl (Ag.upd rfl (Ag.upd rfl (Ag.upd rfl Ag.refl))))))))))) | exact (by first | ((repeat (first | with_reducible exact Ag.refl | with_reducible exact Ag.ov | (with_reducible refine Ag.upd ?_ ?_; exact rfl) | with_reducible refine Ag.putn ?_ | (with_reducible refine Ag.ovs ?_ ?_; exact rfl))); done) | (repeat (first | exact Ag.refl | exact Ag.ov | (refine Ag.upd ?_ ?_; exact rfl) | refine Ag.putn ?_ | (refine Ag.ovs ?_ ?_; exact rfl))))) (by (conv => lhs; whnf); first | done | rfl) ?_)
        all_goals (exact congrArg Value.bool (by first | rfl | (refine decide_eq_decide.2 ?_; omega) | (refine (decide_eq_true ?_).symm; omega) | (refine (decide_eq_false ?_).symm; omega) | simp_all))
      refine tq_n ?_
      refine c_cond_d (by (conv => lhs; whnf); first | done | rfl) (fun hc54 => ?_) (fun hc54 => ?_)
      · refine c_region ?_
        refine x_bld rfl (.cons (by (conv => lhs; whnf); first | done | rfl) .nil) rfl ?_
        refine x_fa rfl (by (conv => lhs; whnf); first | done | rfl) ?_
        refine x_stp rfl (by (conv => lhs; whnf); first | done | rfl) (by (conv => lhs; whnf); first | done | rfl) rfl rfl (by first | exact HasC.out | exact PutC.out | repeat (first | exact .here | apply Has.there | apply Put.there | apply Has.app | apply Put.app)) rfl ?_
        refine w_nil ?_
        refine tm_n ?_
        exact ⟨(by first | ((repeat (first | with_reducible exact Ag.refl | with_reducible exact Ag.ov | (with_reducible refine Ag.upd ?_ ?_; exact rfl) | with_reducible refine Ag.putn ?_ | (with_reducible refine Ag.ovs ?_ ?_; exact rfl))); done) | (repeat (first | exact Ag.refl | exact Ag.ov | (refine Ag.upd ?_ ?_; exact rfl) | refine Ag.putn ?_ | (refine Ag.ovs ?_ ?_; exact rfl)))), [], _, (by first | exact SubL.out | repeat (first | exact List.Sublist.refl _ | exact List.nil_sublist _ | refine .cons_cons _ ?_ | refine .cons _ ?_ | refine List.Sublist.append (List.Sublist.refl _) ?_ | exact List.sublist_append_left _ _ | refine List.Sublist.trans ?_ (List.sublist_append_right _ _))), (by repeat (first | exact .nil | refine .cons rfl ?_)), ⟨_, _, rfl, gH, gD, by first | (simp only [setT, if_pos hc54]; rfl) | simp only [setT, if_neg hc54]⟩⟩
      · refine c_skip ?_
        refine tm_n ?_
        exact ⟨(by first | ((repeat (first | with_reducible exact Ag.refl | with_reducible exact Ag.ov | (with_reducible refine Ag.upd ?_ ?_; exact rfl) | with_reducible refine Ag.putn ?_ | (with_reducible refine Ag.ovs ?_ ?_; exact rfl))); done) | (repeat (first | exact Ag.refl | exact Ag.ov | (refine Ag.upd ?_ ?_; exact rfl) | refine Ag.putn ?_ | (refine Ag.ovs ?_ ?_; exact rfl)))), [], _, (by first | exact SubL.out | repeat (first | exact List.Sublist.refl _ | exact List.nil_sublist _ | refine .cons_cons _ ?_ | refine .cons _ ?_ | refine List.Sublist.append (List.Sublist.refl _) ?_ | exact List.sublist_append_left _ _ | refine List.Sublist.trans ?_ (List.sublist_append_right _ _))), (by repeat (first | exact .nil | refine .cons rfl ?_)), ⟨_, _, rfl, gH, gD, by first | (simp only [setT, if_pos hc54]; rfl) | simp only [setT, if_neg hc54]⟩⟩
    · rintro sM LM gM ⟨oD, oH, rfl, gH', gD', rfl⟩
      refine m_seq ?_
      have hul' := usedL_len hm'.1
      have hTab : TabO (Sv ++ (Sp' ++ [(bD, oD), (bH, oH)])) _ (setT t b ph) := tabO_tw hm'.1.cl gD' gH' (by show OSl 102 2 _ _ (fgt (inBk t.P b) t.lo).length _; rw [fgt_len]; exact g3) hW (by first | exact SubL.out | repeat (first | exact List.Sublist.refl _ | exact List.nil_sublist _ | refine .cons_cons _ ?_ | refine .cons _ ?_ | refine List.Sublist.append (List.Sublist.refl _) ?_ | exact List.sublist_append_left _ _ | refine List.Sublist.trans ?_ (List.sublist_append_right _ _))) (by first | exact SubL.out | repeat (first | exact List.Sublist.refl _ | exact List.nil_sublist _ | refine .cons_cons _ ?_ | refine .cons _ ?_ | refine List.Sublist.append (List.Sublist.refl _) ?_ | exact List.sublist_append_left _ _ | refine List.Sublist.trans ?_ (List.sublist_append_right _ _))) (by first | exact SubL.out | repeat (first | exact List.Sublist.refl _ | exact List.nil_sublist _ | refine .cons_cons _ ?_ | refine .cons _ ?_ | refine List.Sublist.append (List.Sublist.refl _) ?_ | exact List.sublist_append_left _ _ | refine List.Sublist.trans ?_ (List.sublist_append_right _ _))) (by first | exact SubL.out | repeat (first | exact List.Sublist.refl _ | exact List.nil_sublist _ | refine .cons_cons _ ?_ | refine .cons _ ?_ | refine List.Sublist.append (List.Sublist.refl _) ?_ | exact List.sublist_append_left _ _ | refine List.Sublist.trans ?_ (List.sublist_append_right _ _)))
      refine c_region ?_
      refine x_ldao rfl (by (conv => lhs; whnf); first | done | rfl) (by first | exact HasC.out | exact PutC.out | repeat (first | exact .here | apply Has.there | apply Put.there | apply Has.app | apply Put.app)) rfl ?_
      refine x_call (used_g (hTab.use (by first | exact SubL.out | repeat (first | exact List.Sublist.refl _ | exact List.nil_sublist _ | refine .cons_cons _ ?_ | refine .cons _ ?_ | refine List.Sublist.append (List.Sublist.refl _) ?_ | exact List.sublist_append_left _ _ | refine List.Sublist.trans ?_ (List.sublist_append_right _ _)))) hm') rfl rfl rfl ?_
      rintro _ _ ⟨S11, rfl, hS11⟩
      refine x_al rfl ?_
      intro b11
      refine x_st1 rfl (by (conv => lhs; whnf); first | done | rfl) (by (conv => lhs; whnf); first | done | rfl) (hS11.one) (by first | exact HasC.out | exact PutC.out | repeat (first | exact .here | apply Has.there | apply Put.there | apply Has.app | apply Put.app)) rfl ?_
      refine w_nil ?_
      refine tm_n ?_
      refine m_seq ?_
      refine CWI.perm ?_ (TakS.out (S := S8))
      refine d_begin_s ((show List.Sublist [(b3, _)] _ from (by first | exact SubL.out | repeat (first | exact List.Sublist.refl _ | exact List.nil_sublist _ | refine .cons_cons _ ?_ | refine .cons _ ?_ | refine List.Sublist.append (List.Sublist.refl _) ?_ | exact List.sublist_append_left _ _ | refine List.Sublist.trans ?_ (List.sublist_append_right _ _))))) [] mixed ?_
      refine d_tk 0 (np_thenm np_ret) rfl (by kernel_rfl) (by kernel_rfl) (by kernel_rfl) (by kernel_rfl) (by kernel_rfl) (by first | exact SubL.out | repeat (first | exact List.Sublist.refl _ | exact List.nil_sublist _ | refine .cons_cons _ ?_ | refine .cons _ ?_ | refine List.Sublist.append (List.Sublist.refl _) ?_ | exact List.sublist_append_left _ _ | refine List.Sublist.trans ?_ (List.sublist_append_right _ _))) ?_
      refine x_ldao rfl (by (conv => lhs; whnf); first | done | rfl) (by first | exact HasC.out | exact PutC.out | repeat (first | exact .here | apply Has.there | apply Put.there | apply Has.app | apply Put.app)) rfl ?_
      refine w_nil ⟨rfl, rfl, ?_⟩
      refine d_tk0 1 (np_thenm np_ret) rfl (by kernel_rfl) (by kernel_rfl) (by kernel_rfl) (by kernel_rfl) (.inl (by first | exact SubL.out | repeat (first | exact List.Sublist.refl _ | exact List.nil_sublist _ | refine .cons_cons _ ?_ | refine .cons _ ?_ | refine List.Sublist.append (List.Sublist.refl _) ?_ | exact List.sublist_append_left _ _ | refine List.Sublist.trans ?_ (List.sublist_append_right _ _)))) ?_
      refine w_mov rfl (by (conv => lhs; whnf); first | done | rfl) ?_
      refine w_nil ⟨rfl, rfl, ?_⟩
      refine d_tk0 2 (np_thenm np_ret) rfl (by kernel_rfl) (by kernel_rfl) (by kernel_rfl) (by kernel_rfl) (.inl (by first | exact SubL.out | repeat (first | exact List.Sublist.refl _ | exact List.nil_sublist _ | refine .cons_cons _ ?_ | refine .cons _ ?_ | refine List.Sublist.append (List.Sublist.refl _) ?_ | exact List.sublist_append_left _ _ | refine List.Sublist.trans ?_ (List.sublist_append_right _ _)))) ?_
      refine x_fun rfl .nil (.cons (by (conv => lhs; whnf); first | done | rfl) .nil) ?_
      refine w_nil ⟨rfl, rfl, ?_⟩
      refine d_one 3 rfl (by kernel_rfl) ?_
      refine x_call (deleteFunc_g (kf := 113) (cap := #[.pointer (some ⟨b11, 0, none⟩)]) (φ := memB (srt (usedL (setT t b ph)))) (srt_osl hS8) (by rw [len_srt]; omega) (fun w' hM' L' x => settle2_g (((Rd.own (by first | exact HasC.out | exact PutC.out | repeat (first | exact .here | apply Has.there | apply Put.there | apply Has.app | apply Put.app)) rfl).at hM').sub (List.nil_sublist _)) (((SlR.ofOSl (by rw [flatI]; exact srt_osl hS11) rfl (by rw [len_srt]; omega) (by first | exact SubL.out | repeat (first | exact List.Sublist.refl _ | exact List.nil_sublist _ | refine .cons_cons _ ?_ | refine .cons _ ?_ | refine List.Sublist.append (List.Sublist.refl _) ?_ | exact List.sublist_append_left _ _ | refine List.Sublist.trans ?_ (List.sublist_append_right _ _)))).at hM').sub (List.nil_sublist _))) (fun x L' hs => settle2_g (Rd.sub (Rd.own (by first | exact HasC.out | exact PutC.out | repeat (first | exact .here | apply Has.there | apply Put.there | apply Has.app | apply Put.app)) rfl) hs) (SlR.sub (SlR.ofOSl (by rw [flatI]; exact srt_osl hS11) rfl (by rw [len_srt]; omega) (by first | exact SubL.out | repeat (first | exact List.Sublist.refl _ | exact List.nil_sublist _ | refine .cons_cons _ ?_ | refine .cons _ ?_ | refine List.Sublist.append (List.Sublist.refl _) ?_ | exact List.sublist_append_left _ _ | refine List.Sublist.trans ?_ (List.sublist_append_right _ _)))) hs))) rfl rfl rfl ?_
      rintro _ _ ⟨S8', rfl, hFL⟩
      refine w_nil ⟨rfl, (.inl (by first | exact SubL.out | repeat (first | exact List.Sublist.refl _ | exact List.nil_sublist _ | refine .cons_cons _ ?_ | refine .cons _ ?_ | refine List.Sublist.append (List.Sublist.refl _) ?_ | exact List.sublist_append_left _ _ | refine List.Sublist.trans ?_ (List.sublist_append_right _ _)))), ?_⟩
      refine d_one 4 rfl (by kernel_rfl) ?_
      refine x_stw rfl (by (conv => lhs; whnf); first | done | rfl) (by (conv => lhs; whnf); first | done | rfl) rfl rfl (by first | exact HasC.out | exact PutC.out | repeat (first | exact .here | apply Has.there | apply Put.there | apply Has.app | apply Put.app)) rfl ?_
      refine w_nil ⟨rfl, (.inl (by first | exact SubL.out | repeat (first | exact List.Sublist.refl _ | exact List.nil_sublist _ | refine .cons_cons _ ?_ | refine .cons _ ?_ | refine List.Sublist.append (List.Sublist.refl _) ?_ | exact List.sublist_append_left _ _ | refine List.Sublist.trans ?_ (List.sublist_append_right _ _)))), ?_⟩
      refine d_tk0 5 (np_thenm np_ret) rfl (by kernel_rfl) (by kernel_rfl) (by kernel_rfl) (by kernel_rfl) (.inl (by first | exact SubL.out | repeat (first | exact List.Sublist.refl _ | exact List.nil_sublist _ | refine .cons_cons _ ?_ | refine .cons _ ?_ | refine List.Sublist.append (List.Sublist.refl _) ?_ | exact List.sublist_append_left _ _ | refine List.Sublist.trans ?_ (List.sublist_append_right _ _)))) ?_
      refine w_asg rfl (by (conv => lhs; whnf); first | done | rfl) ?_
      refine w_nil ⟨rfl, rfl, ?_⟩
      refine d_done (by kernel_rfl) ?_
      refine tm_n ?_
      refine m_of ?_
      refine c_ret ?_
      skip
      refine kq_1 ?_
      exact rq_r (ra_c (by (conv => lhs; whnf); first | done | rfl) (by first | exact HasC.out | exact PutC.out | repeat (first | exact .here | apply Has.there | apply Put.there | apply Has.app | apply Put.app)) rfl (ra_t (by (conv => lhs; whnf); first | done | rfl) .nil)) (show List.Sublist (S8' ++ (Sv ++ (Sp' ++ [(bD, oD), (bH, oH)]))) _ from (by first | exact SubL.out | repeat (first | exact List.Sublist.refl _ | exact List.nil_sublist _ | refine .cons_cons _ ?_ | refine .cons _ ?_ | refine List.Sublist.append (List.Sublist.refl _) ?_ | exact List.sublist_append_left _ _ | refine List.Sublist.trans ?_ (List.sublist_append_right _ _)))) (⟨_, _, rfl, (hFL default _ (List.Sublist.refl _)).one, fun w0 L hs => hTab w0 L (List.Sublist.trans (by first | exact SubL.out | repeat (first | exact List.Sublist.refl _ | exact List.nil_sublist _ | refine .cons_cons _ ?_ | refine .cons _ ?_ | refine List.Sublist.append (List.Sublist.refl _) ?_ | exact List.sublist_append_left _ _ | refine List.Sublist.trans ?_ (List.sublist_append_right _ _))) hs), fun w0 L hs => hFL w0 L (List.Sublist.trans (by first | exact SubL.out | repeat (first | exact List.Sublist.refl _ | exact List.nil_sublist _ | refine .cons_cons _ ?_ | refine .cons _ ?_ | refine List.Sublist.append (List.Sublist.refl _) ?_ | exact List.sublist_append_left _ _ | refine List.Sublist.trans ?_ (List.sublist_append_right _ _))) hs)⟩)
end
end Go.Proofs.Ytnmhhelcaibdoaa.Pl
