/- The reference's Used, gone, moved, Folded, Switched: they answer what plan's do. -/
import Derived.Test.YtnmhhelcaibdoaaEi
namespace Go.Proofs.Ytnmhhelcaibdoaa.Pl
open Go Go.RowKit Sl
set_option linter.unusedVariables false
set_option linter.unusedSimpArgs false
/-- The numbers under k that are used, rising. -/
def usT (t : Tb) (k : Nat) : List Int := ((List.range k).map fun i : Nat => (i : Int)).filter fun x => decide (x ∈ lst t)
theorem usT_step {t : Tb} {k : Nat} : usT t (k + 1) = usT t k ++ (if (k : Int) ∈ lst t then [(k : Int)] else []) := by
  unfold usT
  rw [List.range_succ, List.map_append, List.filter_append]
  congr 1
  by_cases h : (k : Int) ∈ lst t
  · rw [if_pos h, List.map_singleton, List.filter_cons_of_pos (by simpa using h), List.filter_nil]
  · rw [if_neg h, List.map_singleton, List.filter_cons_of_neg (by simpa using h), List.filter_nil]
theorem usT_len {t : Tb} {k : Nat} : (usT t k).length ≤ k := Nat.le_trans (List.length_filter_le _ _) (by simp)
theorem range_pw (k : Nat) : ((List.range k).map fun i : Nat => (i : Int)).Pairwise (fun x y => x < y) := by
  rw [List.pairwise_map]
  exact List.pairwise_lt_range.imp fun h => by omega
theorem lst_bd {t : Tb} (hm : May t) : (∀ x ∈ lst t, 0 ≤ x ∧ x ≤ 255) ∧ (lst t).Nodup := by
  obtain ⟨p1, p2, p3, p4, p5⟩ := may_parts hm
  have h1 := (may_ref_iff p1 p2 p3 p4 p5).1 hm
  have hph : ∀ l ∈ t.lo, 0 ≤ l.ph := fun l hl => by
    obtain ⟨i, hi, rfl⟩ := List.mem_iff_getElem.1 hl
    exact (p5.2.1 i _ hi (getN hi)).1.1
  exact ⟨fun x hx => ⟨lst_nn hph x hx, h1.1 x hx⟩, h1.2⟩
theorem usT_srt {t : Tb} (hm : May t) : usT t 256 = srt (usedL t) := by
  have hb := lst_bd hm
  have hp : (usT t 256).Perm (lst t) := by
    refine (List.perm_ext_iff_of_nodup ?_ hb.2).2 fun x => ?_
    · exact List.Pairwise.filter _ ((range_pw 256).imp fun {a b} h (e : a = b) => by omega)
    · unfold usT
      rw [List.mem_filter, List.mem_map]
      constructor
      · rintro ⟨_, h⟩; exact of_decide_eq_true h
      · intro h
        have := hb.1 x h
        exact ⟨⟨x.toNat, List.mem_range.2 (by omega), by omega⟩, decide_eq_true h⟩
  have hp2 : (usT t 256).Perm (srt (usedL t)) := (hp.trans lst_perm).trans (List.mergeSort_perm _ _).symm
  refine hp2.eq_of_pairwise (le := fun x y => x ≤ y) (fun a b _ _ h1 h2 => by omega) (List.Pairwise.filter _ ((range_pw 256).imp fun h => by omega)) ?_
  have := List.pairwise_mergeSort (le := fun x y : Int => decide (x ≤ y)) (fun a b c h1 h2 => by simp at *; omega) (fun a b => by simp; omega) (usedL t)
  exact this.imp fun h => of_decide_eq_true h
theorem gone_eq {t t' : Tb} : (srt (usedL t)).filter (fun x => decide (x ∉ lst t')) = goneL t t' := by
  unfold goneL
  refine List.filter_congr fun x _ => ?_
  unfold memB
  by_cases h : x ∈ lst t'
  · have : x ∈ srt (usedL t') := mem_srt.2 (mem_lst.1 h)
    simp [h, this]
  · have : x ∉ srt (usedL t') := fun h' => h (mem_lst.2 (mem_srt.1 h'))
    simp [h, this]
theorem lst_len {t : Tb} (h : Lists t) : (lst t).length ≤ 8192 := by rw [lst_perm.length_eq]; exact usedL_len h
theorem snocI {xs : List Int} {x : Int} {v : Value} {S : Own} (h : OSl 3 1 v (xs.map (Value.int .i64) ++ [.int .i64 x]) (xs.length + 1) S) : OSl 3 1 v ((xs ++ [x]).map (Value.int .i64)) (xs ++ [x]).length S := by
  rw [List.map_append, List.length_append]; exact h
section
variable {w0 : World} {L : Own}
theorem usedr_g {v : Value} {t : Tb} (h : TabR w0 L v t) (hm : May t) : Gives Try.prog w0 L 120 [v] (fun v' L' => ∃ S, L' = S ++ L ∧ OSl 3 1 v' ((srt (usedL t)).map (Value.int .i64)) (srt (usedL t)).length S) := by
  refine enterB (R := fun v' S => OSl 3 1 v' ((srt (usedL t)).map (Value.int .i64)) (srt (usedL t)).length S) Try.func120 rfl Try.ntmps120 Try.results120 (Nat.le_of_ble_eq_true rfl) fun w hM => ?_
  have hT := h.at hM
  obtain ⟨vd, vh, vl, rfl, hd, hh, hlo⟩ := ((h).at hM).ex; obtain ⟨Ad, cd, rfl, hdc, hdl, hdA, hdR⟩ := id hd.ex; obtain ⟨Ah, ch, rfl, hhc, hhl, hhA, hhR⟩ := id hh.ex; obtain ⟨Al, cl, rfl, hlc, hll, hlA, hlR⟩ := LogR.opn hlo
  clear hM
  have hLi := hm.1
  have hcl := hLi.cl
  have hll := lst_len hLi
  refine c_seq ?_
  refine c_region ?_
  refine x_boxa rfl (by (conv => lhs; whnf) <;> rfl) ?_
  intro b1
  refine w_asg rfl (by (conv => lhs; whnf) <;> rfl) ?_
  refine w_nil ?_
  refine tq_n ?_
  refine c_seq ?_
  refine c_region ?_
  refine x_ldao rfl (by (conv => lhs; whnf) <;> rfl) (by first | exact HasC.out | exact PutC.out) rfl ?_
  refine x_call (mayr_g (hT.sub (List.nil_sublist _))) rfl rfl rfl ?_
  rintro _ _ ⟨S76, rfl, hS1, hS2⟩
  obtain ⟨rfl, rfl⟩ := hS1 hm
  simp only [List.nil_append]
  refine x_call (list_g (hT.sub (List.nil_sublist _)) hcl.1 hcl.2.2.1) rfl rfl rfl ?_
  rintro _ _ ⟨S8, rfl, hS8⟩
  obtain ⟨A8, c8, rfl, _⟩ := hS8.form
  refine w_asg rfl (by (conv => lhs; whnf) <;> rfl) ?_
  refine w_nil ?_
  refine tq_n ?_
  refine c_seq ?_
  refine c_region ?_
  refine w_asg rfl (by (conv => lhs; whnf) <;> rfl) ?_
  refine w_nil ?_
  refine tq_n ?_
  refine c_seq ?_
  refine c_seq ?_
  refine c_region ?_
  refine w_asg rfl (by (conv => lhs; whnf) <;> rfl) ?_
  refine w_nil ?_
  refine tq_n ?_
  refine c_block ?_
  refine c_loop_ov [9, 10, 13, 14, 15, 16, 17, 18, 19, 4, 11, 12, 5] (fun m s L => ∃ (k : Nat) (v4 : Value) (S4 : Own), k ≤ 256 ∧ OSl 3 1 v4 ((usT t k).map (Value.int .i64)) (usT t k).length S4 ∧ m = 256 - k ∧ s = [(4, v4), (5, .int .i64 k)] ∧ L = S4 ++ (S8 ++ [(b1, B 43 (cT t Ad cd Ah ch Al cl))])) (256) [(4, .slice none 0 0), (5, .int .i64 (0 : Nat))] (by repeat (first | exact .nil | refine .cons rfl ?_)) (by first | exact SubL.out | repeat (first | exact .refl _ | exact List.nil_sublist _ | refine .cons_cons _ ?_ | refine .cons _ ?_ | refine .append (.refl _) ?_ | exact List.sublist_append_left _ _ | refine .trans ?_ (List.sublist_append_right _ _))) (⟨0, _, [], by omega, .nil, by omega, rfl, rfl⟩) ?_
  rintro mI sI LI gL0 ⟨k, v4, S4, hk, hS4, rfl, rfl, rfl⟩
  refine c_seq ?_
  refine c_seq ?_
  refine c_region ?_
  refine w_mov rfl (by (conv => lhs; whnf) <;> rfl) ?_
  refine w_lss rfl (by (conv => lhs; whnf) <;> rfl) (by (conv => lhs; whnf) <;> rfl) ?_
  refine w_nil ?_
  refine tq_n ?_
  refine c_cond_d (by (conv => lhs; whnf) <;> rfl) (fun hc10 => ?_) (fun hc10 => ?_)
  · refine c_skip ?_
    refine tq_n ?_
    refine c_seq ?_
    refine c_block ?_
    refine c_seq ?_
    refine c_region ?_
    refine w_mov rfl (by (conv => lhs; whnf) <;> rfl) ?_
    refine w_mov rfl (by (conv => lhs; whnf) <;> rfl) ?_
    refine x_callp (by decide) (has_g (xs := lst t) (x := (k : Int)) (SlR.ofOSl (by rw [flatI]; exact hS8) rfl (by omega) (by first | exact SubL.out | repeat (first | exact .refl _ | exact List.nil_sublist _ | refine .cons_cons _ ?_ | refine .cons _ ?_ | refine .append (.refl _) ?_ | exact List.sublist_append_left _ _ | refine .trans ?_ (List.sublist_append_right _ _))))) rfl rfl rfl ?_
    refine w_nil ?_
    refine tq_n ?_
    refine c_cond_d (by (conv => lhs; whnf) <;> rfl) (fun hc15 => ?_) (fun hc15 => ?_)
    · refine c_region ?_
      refine w_mov rfl (by (conv => lhs; whnf) <;> rfl) ?_
      refine w_mov rfl (by (conv => lhs; whnf) <;> rfl) ?_
      refine x_bs1 rfl (by (conv => lhs; whnf) <;> rfl) rfl rfl rfl rfl ?_
      intro b18
      refine x_app rfl (by (conv => lhs; whnf) <;> rfl) (by (conv => lhs; whnf) <;> rfl) (perm1) (hS4) (xs_new (by first | exact HasC.out | exact PutC.out)) (rfl) (rfl) (by have := usT_len (t := t) (k := k); omega) (by decide) ?_
      rintro v9 S9 hS9'
      have hS9 : OSl 3 1 v9 ((usT t (k + 1)).map (Value.int .i64)) (usT t (k + 1)).length S9 := (by rw [usT_step, if_pos hc15]; exact snocI hS9')
      refine w_asg rfl (by (conv => lhs; whnf) <;> rfl) ?_
      refine w_nil ?_
      refine bq_n ?_
      refine tq_n ?_
      refine c_region ?_
      refine w_mov rfl (by (conv => lhs; whnf) <;> rfl) ?_
      refine w_add rfl (by (conv => lhs; whnf) <;> rfl) (by (conv => lhs; whnf) <;> rfl) (by omega) ?_
      refine w_asg rfl (by (conv => lhs; whnf) <;> rfl) ?_
      refine w_nil ?_
      refine tq_n ?_
      exact ⟨(by repeat (first | exact Ag.refl | exact Ag.ov | (refine Ag.upd ?_ ?_; exact rfl) | refine Ag.putn ?_ | (refine Ag.ovs ?_ ?_; exact rfl))), 256 - (k + 1), [(4, _), (5, .int .i64 ((k + 1 : Nat) : Int))], _, by omega, (by first | exact SubL.out | repeat (first | exact .refl _ | exact List.nil_sublist _ | refine .cons_cons _ ?_ | refine .cons _ ?_ | refine .append (.refl _) ?_ | exact List.sublist_append_left _ _ | refine .trans ?_ (List.sublist_append_right _ _))), (by repeat (first | exact .nil | refine .cons rfl ?_)), ⟨k + 1, _, _, by omega, hS9, rfl, rfl, rfl⟩⟩
    · have hS9 : OSl 3 1 v4 ((usT t (k + 1)).map (Value.int .i64)) (usT t (k + 1)).length S4 := (by rw [usT_step, if_neg hc15, List.append_nil]; exact hS4)
      refine c_skip ?_
      refine bq_n ?_
      refine tq_n ?_
      refine c_region ?_
      refine w_mov rfl (by (conv => lhs; whnf) <;> rfl) ?_
      refine w_add rfl (by (conv => lhs; whnf) <;> rfl) (by (conv => lhs; whnf) <;> rfl) (by omega) ?_
      refine w_asg rfl (by (conv => lhs; whnf) <;> rfl) ?_
      refine w_nil ?_
      refine tq_n ?_
      exact ⟨(by repeat (first | exact Ag.refl | exact Ag.ov | (refine Ag.upd ?_ ?_; exact rfl) | refine Ag.putn ?_ | (refine Ag.ovs ?_ ?_; exact rfl))), 256 - (k + 1), [(4, _), (5, .int .i64 ((k + 1 : Nat) : Int))], _, by omega, (by first | exact SubL.out | repeat (first | exact .refl _ | exact List.nil_sublist _ | refine .cons_cons _ ?_ | refine .cons _ ?_ | refine .append (.refl _) ?_ | exact List.sublist_append_left _ _ | refine .trans ?_ (List.sublist_append_right _ _))), (by repeat (first | exact .nil | refine .cons rfl ?_)), ⟨k + 1, _, _, by omega, hS9, rfl, rfl, rfl⟩⟩
  · have hkk : k = 256 := (by omega)
    subst hkk
    refine c_exit ?_
    refine tq_e ?_
    refine tq_e ?_
    refine bq_e ?_
    refine tq_n ?_
    refine c_seq ?_
    refine c_region ?_
    refine w_mov rfl (by (conv => lhs; whnf) <;> rfl) ?_
    refine w_asg rfl (by (conv => lhs; whnf) <;> rfl) ?_
    refine w_nil ?_
    refine tq_n ?_
    refine c_ret ?_
    exact rq_r (ra_t (by (conv => lhs; whnf) <;> rfl) .nil) (List.sublist_append_left _ _) ((by rw [← usT_srt hm]; exact hS4))
theorem goner_g {v u : Value} {t t' : Tb} (h : TabR w0 L v t) (h' : TabR w0 L u t') (hm : May t) (hm' : May t') : Gives Try.prog w0 L 80 [v, u] (fun v' L' => ∃ S, L' = S ++ L ∧ OSl 3 1 v' ((goneL t t').map (Value.int .i64)) (goneL t t').length S) := by
  refine enterB (R := fun v' S => OSl 3 1 v' ((goneL t t').map (Value.int .i64)) (goneL t t').length S) Try.func80 rfl Try.ntmps80 Try.results80 (Nat.le_of_ble_eq_true rfl) fun w hM => ?_
  have hT' := h'.at hM
  obtain ⟨Ae, ce, Ag', cg, Am, cm, rfl⟩ := hT'.form
  have hT := h.at hM
  obtain ⟨vd, vh, vl, rfl, hd, hh, hlo⟩ := ((h).at hM).ex; obtain ⟨Ad, cd, rfl, hdc, hdl, hdA, hdR⟩ := id hd.ex; obtain ⟨Ah, ch, rfl, hhc, hhl, hhA, hhR⟩ := id hh.ex; obtain ⟨Al, cl, rfl, hlc, hll, hlA, hlR⟩ := LogR.opn hlo
  clear hM
  have hcl' := hm'.1.cl
  have hll' := lst_len hm'.1
  have hul := usedL_len hm.1
  obtain ⟨xs, hxs⟩ : ∃ xs, srt (usedL t) = xs := ⟨_, rfl⟩
  have hxl : xs.length ≤ 8192 := by rw [← hxs, len_srt]; exact hul
  have hge := gone_eq (t := t) (t' := t')
  rw [hxs] at hge
  rw [← hge]
  refine c_seq ?_
  refine c_region ?_
  refine x_boxa rfl (by (conv => lhs; whnf) <;> rfl) ?_
  intro b2
  refine x_boxa rfl (by (conv => lhs; whnf) <;> rfl) ?_
  intro b3
  refine w_asg rfl (by (conv => lhs; whnf) <;> rfl) ?_
  refine w_nil ?_
  refine tq_n ?_
  refine c_seq ?_
  refine d_begin_s ((List.Sublist.refl _)) [] mixed ?_
  refine d_tk 0 (np_then np_ret) rfl (by kernel_rfl) (by kernel_rfl) (by kernel_rfl) (by kernel_rfl) (by kernel_rfl) (by first | exact SubL.out | repeat (first | exact .refl _ | exact List.nil_sublist _ | refine .cons_cons _ ?_ | refine .cons _ ?_ | refine .append (.refl _) ?_ | exact List.sublist_append_left _ _ | refine .trans ?_ (List.sublist_append_right _ _))) ?_
  refine x_ldao rfl (by (conv => lhs; whnf) <;> rfl) (by first | exact HasC.out | exact PutC.out) rfl ?_
  refine w_nil ⟨rfl, rfl, ?_⟩
  refine d_tk 2 (np_then np_ret) rfl (by kernel_rfl) (by kernel_rfl) (by kernel_rfl) (by kernel_rfl) (by kernel_rfl) (by first | exact SubL.out | repeat (first | exact .refl _ | exact List.nil_sublist _ | refine .cons_cons _ ?_ | refine .cons _ ?_ | refine .append (.refl _) ?_ | exact List.sublist_append_left _ _ | refine .trans ?_ (List.sublist_append_right _ _))) ?_
  refine x_ldao rfl (by (conv => lhs; whnf) <;> rfl) (by first | exact HasC.out | exact PutC.out) rfl ?_
  refine w_nil ⟨rfl, rfl, ?_⟩
  refine d_one 1 rfl (by kernel_rfl) ?_
  refine x_call (usedr_g (hT.sub (List.nil_sublist _)) hm) rfl rfl rfl ?_
  rintro _ _ ⟨S12, rfl, hS12⟩
  rw [hxs] at hS12
  obtain ⟨A2, c2, rfl, hcc2, hl2, hA2, hR2⟩ := (SlR.ofOSl (w0 := w) (L := S12) (xs := xs) (enc := Sl.encI) (by rw [flatI]; exact hS12) rfl (by omega) (List.Sublist.refl _)).ex
  refine w_nil ⟨rfl, (.inl (by first | exact SubL.out | repeat (first | exact .refl _ | exact List.nil_sublist _ | refine .cons_cons _ ?_ | refine .cons _ ?_ | refine .append (.refl _) ?_ | exact List.sublist_append_left _ _ | refine .trans ?_ (List.sublist_append_right _ _)))), ?_⟩
  refine d_one 3 rfl (by kernel_rfl) ?_
  refine x_call (list_g (hT'.sub (List.nil_sublist _)) hcl'.1 hcl'.2.2.1) rfl rfl rfl ?_
  rintro _ _ ⟨S8, rfl, hS8⟩
  obtain ⟨A8, c8, rfl, _⟩ := hS8.form
  refine w_nil ⟨rfl, (.inl (by first | exact SubL.out | repeat (first | exact .refl _ | exact List.nil_sublist _ | refine .cons_cons _ ?_ | refine .cons _ ?_ | refine .append (.refl _) ?_ | exact List.sublist_append_left _ _ | refine .trans ?_ (List.sublist_append_right _ _)))), ?_⟩
  refine d_tk0 4 (np_then np_ret) rfl (by kernel_rfl) (by kernel_rfl) (by kernel_rfl) (by kernel_rfl) (.inl (by first | exact SubL.out | repeat (first | exact .refl _ | exact List.nil_sublist _ | refine .cons_cons _ ?_ | refine .cons _ ?_ | refine .append (.refl _) ?_ | exact List.sublist_append_left _ _ | refine .trans ?_ (List.sublist_append_right _ _)))) ?_
  refine w_asg rfl (by (conv => lhs; whnf) <;> rfl) ?_
  refine w_nil ⟨rfl, rfl, ?_⟩
  refine d_tk0 5 (np_then np_ret) rfl (by kernel_rfl) (by kernel_rfl) (by kernel_rfl) (by kernel_rfl) (.inl (by first | exact SubL.out | repeat (first | exact .refl _ | exact List.nil_sublist _ | refine .cons_cons _ ?_ | refine .cons _ ?_ | refine .append (.refl _) ?_ | exact List.sublist_append_left _ _ | refine .trans ?_ (List.sublist_append_right _ _)))) ?_
  refine w_asg rfl (by (conv => lhs; whnf) <;> rfl) ?_
  refine w_nil ⟨rfl, rfl, ?_⟩
  refine d_done (by kernel_rfl) ?_
  refine tq_n ?_
  refine c_seq ?_
  refine c_region ?_
  refine w_asg rfl (by (conv => lhs; whnf) <;> rfl) ?_
  refine w_nil ?_
  refine tq_n ?_
  refine c_seq ?_
  refine c_seq ?_
  refine c_region ?_
  refine w_asg rfl (by (conv => lhs; whnf) <;> rfl) ?_
  refine w_nil ?_
  refine tq_n ?_
  refine c_block ?_
  refine c_loop_ov [13, 14, 15, 16, 19, 20, 21, 22, 23, 24, 25, 26, 27, 28, 29, 30, 31, 32, 7, 17, 18, 8] (fun m s L => ∃ (k : Nat) (v7 : Value) (S7 : Own), k ≤ xs.length ∧ OSl 3 1 v7 (((xs.take k).filter (fun x => decide (x ∉ lst t'))).map (Value.int .i64)) ((xs.take k).filter (fun x => decide (x ∉ lst t'))).length S7 ∧ m = xs.length - k ∧ s = [(7, v7), (8, .int .i64 k)] ∧ L = S7 ++ (S8 ++ (S12 ++ [(b3, B 43 (cT t' Ae ce Ag' cg Am cm)), (b2, B 43 (cT t Ad cd Ah ch Al cl))]))) (xs.length) [(7, .slice none 0 0), (8, .int .i64 (0 : Nat))] (by repeat (first | exact .nil | refine .cons rfl ?_)) (by first | exact SubL.out | repeat (first | exact .refl _ | exact List.nil_sublist _ | refine .cons_cons _ ?_ | refine .cons _ ?_ | refine .append (.refl _) ?_ | exact List.sublist_append_left _ _ | refine .trans ?_ (List.sublist_append_right _ _))) (⟨0, _, [], by omega, .nil, by omega, rfl, rfl⟩) ?_
  rintro mI sI LI gL0 ⟨k, v7, S7, hk, hS7, rfl, rfl, rfl⟩
  refine c_seq ?_
  refine c_seq ?_
  refine c_region ?_
  refine w_mov rfl (by (conv => lhs; whnf) <;> rfl) ?_
  refine w_mov rfl (by (conv => lhs; whnf) <;> rfl) ?_
  refine x_len rfl (by (conv => lhs; whnf) <;> rfl) ?_
  refine w_lss rfl (by (conv => lhs; whnf) <;> rfl) (by (conv => lhs; whnf) <;> rfl) ?_
  refine w_nil ?_
  refine tq_n ?_
  refine c_cond_d (by (conv => lhs; whnf) <;> rfl) (fun hc16 => ?_) (fun hc16 => ?_)
  · have hlt : k < xs.length := by omega
    refine c_skip ?_
    refine tq_n ?_
    refine c_seq ?_
    refine c_block ?_
    refine c_seq ?_
    refine c_region ?_
    refine w_mov rfl (by (conv => lhs; whnf) <;> rfl) ?_
    refine w_mov rfl (by (conv => lhs; whnf) <;> rfl) ?_
    refine w_mov rfl (by (conv => lhs; whnf) <;> rfl) ?_
    refine x_ixA rfl (by (conv => lhs; whnf) <;> rfl) (by (conv => lhs; whnf) <;> rfl) (hA2 (ne_of_lt hlt)) (by omega) (by omega) ?_
    refine x_ld rfl (by (conv => lhs; whnf) <;> rfl) (rdI' (j := (k : Int)) (by first | exact SubL.out | repeat (first | exact .refl _ | exact List.nil_sublist _ | refine .cons_cons _ ?_ | refine .cons _ ?_ | refine .append (.refl _) ?_ | exact List.sublist_append_left _ _ | refine .trans ?_ (List.sublist_append_right _ _))) hR2 (getN hlt)) ?_
    refine x_callp (by decide) (has_g (xs := lst t') (SlR.ofOSl (by rw [flatI]; exact hS8) rfl (by omega) (by first | exact SubL.out | repeat (first | exact .refl _ | exact List.nil_sublist _ | refine .cons_cons _ ?_ | refine .cons _ ?_ | refine .append (.refl _) ?_ | exact List.sublist_append_left _ _ | refine .trans ?_ (List.sublist_append_right _ _))))) rfl rfl rfl ?_
    refine w_notd rfl (by (conv => lhs; whnf) <;> rfl) ?_
    refine w_nil ?_
    refine tq_n ?_
    refine c_cond_d (by (conv => lhs; whnf) <;> rfl) (fun hc25 => ?_) (fun hc25 => ?_)
    · refine c_region ?_
      refine w_mov rfl (by (conv => lhs; whnf) <;> rfl) ?_
      refine w_mov rfl (by (conv => lhs; whnf) <;> rfl) ?_
      refine w_mov rfl (by (conv => lhs; whnf) <;> rfl) ?_
      refine x_ixA rfl (by (conv => lhs; whnf) <;> rfl) (by (conv => lhs; whnf) <;> rfl) (hA2 (ne_of_lt hlt)) (by omega) (by omega) ?_
      refine x_ld rfl (by (conv => lhs; whnf) <;> rfl) (rdI' (j := (k : Int)) (by first | exact SubL.out | repeat (first | exact .refl _ | exact List.nil_sublist _ | refine .cons_cons _ ?_ | refine .cons _ ?_ | refine .append (.refl _) ?_ | exact List.sublist_append_left _ _ | refine .trans ?_ (List.sublist_append_right _ _))) hR2 (getN hlt)) ?_
      refine x_bs1 rfl (by (conv => lhs; whnf) <;> rfl) rfl rfl rfl rfl ?_
      intro b31
      refine x_app rfl (by (conv => lhs; whnf) <;> rfl) (by (conv => lhs; whnf) <;> rfl) (perm1) (hS7) (xs_new (by first | exact HasC.out | exact PutC.out)) (rfl) (rfl) (by have := List.length_filter_le (fun x => decide (x ∉ lst t')) (xs.take k); rw [List.length_take] at this; omega) (by decide) ?_
      rintro v9 S9 hS9'
      have hS9 : OSl 3 1 v9 (((xs.take (k + 1)).filter (fun x => decide (x ∉ lst t'))).map (Value.int .i64)) ((xs.take (k + 1)).filter (fun x => decide (x ∉ lst t'))).length S9 := (by rw [take_succ' hlt, List.filter_append, List.filter_cons_of_pos (by simpa using hc25)]; exact snocI hS9')
      refine w_asg rfl (by (conv => lhs; whnf) <;> rfl) ?_
      refine w_nil ?_
      refine bq_n ?_
      refine tq_n ?_
      refine c_region ?_
      refine w_mov rfl (by (conv => lhs; whnf) <;> rfl) ?_
      refine w_add rfl (by (conv => lhs; whnf) <;> rfl) (by (conv => lhs; whnf) <;> rfl) (by omega) ?_
      refine w_asg rfl (by (conv => lhs; whnf) <;> rfl) ?_
      refine w_nil ?_
      refine tq_n ?_
      exact ⟨(by repeat (first | exact Ag.refl | exact Ag.ov | (refine Ag.upd ?_ ?_; exact rfl) | refine Ag.putn ?_ | (refine Ag.ovs ?_ ?_; exact rfl))), xs.length - (k + 1), [(7, _), (8, .int .i64 ((k + 1 : Nat) : Int))], _, by omega, (by first | exact SubL.out | repeat (first | exact .refl _ | exact List.nil_sublist _ | refine .cons_cons _ ?_ | refine .cons _ ?_ | refine .append (.refl _) ?_ | exact List.sublist_append_left _ _ | refine .trans ?_ (List.sublist_append_right _ _))), (by repeat (first | exact .nil | refine .cons rfl ?_)), ⟨k + 1, _, _, by omega, hS9, rfl, rfl, rfl⟩⟩
    · have hS9 : OSl 3 1 v7 (((xs.take (k + 1)).filter (fun x => decide (x ∉ lst t'))).map (Value.int .i64)) ((xs.take (k + 1)).filter (fun x => decide (x ∉ lst t'))).length S7 := (by rw [take_succ' hlt, List.filter_append, List.filter_cons_of_neg (by simpa using hc25), List.filter_nil, List.append_nil]; exact hS7)
      refine c_skip ?_
      refine bq_n ?_
      refine tq_n ?_
      refine c_region ?_
      refine w_mov rfl (by (conv => lhs; whnf) <;> rfl) ?_
      refine w_add rfl (by (conv => lhs; whnf) <;> rfl) (by (conv => lhs; whnf) <;> rfl) (by omega) ?_
      refine w_asg rfl (by (conv => lhs; whnf) <;> rfl) ?_
      refine w_nil ?_
      refine tq_n ?_
      exact ⟨(by repeat (first | exact Ag.refl | exact Ag.ov | (refine Ag.upd ?_ ?_; exact rfl) | refine Ag.putn ?_ | (refine Ag.ovs ?_ ?_; exact rfl))), xs.length - (k + 1), [(7, _), (8, .int .i64 ((k + 1 : Nat) : Int))], _, by omega, (by first | exact SubL.out | repeat (first | exact .refl _ | exact List.nil_sublist _ | refine .cons_cons _ ?_ | refine .cons _ ?_ | refine .append (.refl _) ?_ | exact List.sublist_append_left _ _ | refine .trans ?_ (List.sublist_append_right _ _))), (by repeat (first | exact .nil | refine .cons rfl ?_)), ⟨k + 1, _, _, by omega, hS9, rfl, rfl, rfl⟩⟩
  · have hkk : k = xs.length := (by omega)
    rw [hkk, List.take_length] at hS7
    refine c_exit ?_
    refine tq_e ?_
    refine tq_e ?_
    refine bq_e ?_
    refine tq_n ?_
    refine c_seq ?_
    refine c_region ?_
    refine w_mov rfl (by (conv => lhs; whnf) <;> rfl) ?_
    refine w_asg rfl (by (conv => lhs; whnf) <;> rfl) ?_
    refine w_nil ?_
    refine tq_n ?_
    refine c_ret ?_
    exact rq_r (ra_t (by (conv => lhs; whnf) <;> rfl) .nil) (List.sublist_append_left _ _) (hS7)
end
end Go.Proofs.Ytnmhhelcaibdoaa.Pl
