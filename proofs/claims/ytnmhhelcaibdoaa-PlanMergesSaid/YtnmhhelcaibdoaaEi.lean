/- The lists of copies: the law's fold and rest, the reference's Fold, Rest and SameCopies. -/
import Derived.Test.YtnmhhelcaibdoaaEh
namespace Go.Proofs.Ytnmhhelcaibdoaa.Pl
open Go Go.RowKit Sl
set_option linter.unusedVariables false
set_option linter.unusedSimpArgs false
abbrev CL (w0 : World) (L : Own) (v : Value) (xs : List Cpy) : Prop := SlR w0 L enC3 v xs
theorem cpL_len {t : Tb} {b a o : Int} : (cpL t b a o).length ≤ (o - a).toNat := by
  unfold cpL
  exact Nat.le_trans (List.length_filterMap_le _ _) (by rw [List.length_range]; exact Nat.le_refl _)
theorem foldA_len {t : Tb} {b : Int} (h : Lists t) : (foldA t b).length ≤ 32 := by
  unfold foldA
  have hP := h.1.1.1
  split
  · have := cpL_len (t := t) (b := b) (a := 0) (o := t.P); omega
  · simp
theorem restA_len {t : Tb} (h : Lists t) : (restA t).length ≤ 32 := by
  unfold restA
  have hP := h.1.1.1
  have hsu : (t.sp = -1 ∧ t.sl = 0 ∧ t.su = 0) ∨ ((0 ≤ t.sp ∧ t.sp ≤ 255) ∧ (0 ≤ t.sl ∧ t.sl ≤ t.G - 1) ∧ 0 ≤ t.su ∧ t.su ≤ t.P) := h.2.2
  split
  · simp
  · have := cpL_len (t := t) (b := t.sl) (a := t.su) (o := t.P); omega
theorem mayT_idem {t : Tb} : mayT (mayT t) = mayT t := mayT_of (mayT_may t)
theorem cpO_snd {t : Tb} {b o : Int} {c : Cpy} (h : cpO t b o = some c) : c.2 = o := by
  unfold cpO at h
  obtain ⟨p, _, rfl⟩ := Option.map_eq_some_iff.1 h
  rfl
theorem cpL_filter {t : Tb} {b a : Int} (ha : 0 ≤ a) : ∀ k : Nat, (cpL t b 0 (a + k)).filter (fun c => decide (a ≤ c.2)) = cpL t b a (a + k)
  | 0 => by
    rw [show a + ((0 : Nat) : Int) = a by omega, cpL_zero, List.filter_eq_nil_iff]
    intro c hc
    have := cpL_mem hc
    simp; omega
  | k + 1 => by
    rw [show a + ((k + 1 : Nat) : Int) = (a + k) + 1 by omega, cpL_succ (by omega), cpL_succ (by omega), List.filter_append, cpL_filter ha k]
    congr 1
    cases h : cpO t b (a + k) with
    | none => rfl
    | some c => rw [Option.toList_some, List.filter_cons_of_pos (by rw [cpO_snd h]; exact decide_eq_true (by omega))]; rfl
theorem restA_filter {t : Tb} (h : Lists t) (hs : ¬ t.sp < 0) : restA t = (cpL t t.sl 0 t.P).filter (fun c => decide (t.su ≤ c.2)) := by
  have hsu : (t.sp = -1 ∧ t.sl = 0 ∧ t.su = 0) ∨ ((0 ≤ t.sp ∧ t.sp ≤ 255) ∧ (0 ≤ t.sl ∧ t.sl ≤ t.G - 1) ∧ 0 ≤ t.su ∧ t.su ≤ t.P) := h.2.2
  unfold restA
  rw [if_neg hs]
  have := cpL_filter (t := t) (b := t.sl) (a := t.su) (by omega) (t.P - t.su).toNat
  rw [show t.su + ((t.P - t.su).toNat : Int) = t.P by omega] at this
  exact this.symm
theorem foldA_seq {t : Tb} (h : Lists t) (hs : ¬ t.sp < 0) : foldA t t.sl = cpL t t.sl 0 t.P := by
  have hsu : (t.sp = -1 ∧ t.sl = 0 ∧ t.su = 0) ∨ ((0 ≤ t.sp ∧ t.sp ≤ 255) ∧ (0 ≤ t.sl ∧ t.sl ≤ t.G - 1) ∧ 0 ≤ t.su ∧ t.su ≤ t.P) := h.2.2
  unfold foldA
  rw [if_pos (by omega)]
theorem snocC {xs : List Cpy} {x : Cpy} {v : Value} {S : Own} {n : Nat} (h : OSl 118 3 v (xs.flatMap enC3 ++ [.int .i64 x.1.1, .int .i64 x.1.2, .int .i64 x.2]) (xs.length + 1) S) : OSl 118 3 v ((xs ++ [x]).flatMap enC3) (xs ++ [x]).length S := by
  rw [List.flatMap_append, List.length_append]; exact h
theorem rd3 {w0 : World} {L0 L : Own} {xs : List Cpy} {b o : Nat} (hs : L0.Sublist L) (h : ∀ i c, (xs.flatMap enC3)[i]? = some c → Rd w0 L0 ⟨b, o + i, none⟩ c) {j : Int} {x : Cpy} (hx : xs[j.toNat]? = some x) : ∀ k v, [.int .i64 x.1.1, .int .i64 x.1.2, .int .i64 x.2][k]? = some v → Rd w0 L ((⟨b, o + j.toNat * 3, none⟩ : Addr).add k) v := by
  intro k v hv
  rw [addr_add, show o + j.toNat * 3 + k = o + (j.toNat * 3 + k) by omega]
  exact (h _ _ (flat_get (enc := enC3) (s := 3) (fun _ => rfl) xs j.toNat k x v hx hv)).sub hs
theorem cpy_ext {x y : Cpy} (h : [x.1.1, x.1.2] ++ [x.2] = [y.1.1, y.1.2] ++ [y.2]) : x = y := by
  obtain ⟨⟨a, b⟩, c⟩ := x
  obtain ⟨⟨d, e⟩, f⟩ := y
  simp_all
section
variable {w0 : World} {L : Own}
theorem whereM_g {v : Value} {t : Tb} {p : Int} (h : TabR w0 L v t) (hm : May t) (h0 : 0 ≤ p) (h1 : p < t.ha.length) : Gives Try.prog w0 L 77 [v, .int .i64 p] (fun v' L' => v' = plcV (whr t p) ∧ L' = L) :=
  (Wherer_g h).mono fun v' L' ⟨e1, e2⟩ => ⟨e1.trans (by rw [show whrM t p = whr t p by unfold whrM; rw [mayT_of hm]; exact if_pos ⟨h0, by omega⟩]), e2⟩
theorem sameC_g {v u : Value} {xs ys : List Cpy} (h : CL w0 L v xs) (h' : CL w0 L u ys) : Gives Try.prog w0 L 36 [v, u] (fun v' L' => v' = .bool (decide (xs = ys)) ∧ L' = L) := by
  refine enterP Try.func36 rfl Try.ntmps36 Try.results36 (Nat.le_of_ble_eq_true rfl) fun w hM => ?_
  obtain ⟨A, cap, rfl, hcap, hlen, hA, hR⟩ := (h.at hM).ex
  obtain ⟨A', cap', rfl, hcap', hlen', hA', hR'⟩ := (h'.at hM).ex
  clear h h' hM
  refine c_seq ?_
  refine c_region ?_
  refine w_asg rfl (by (conv => lhs; whnf) <;> rfl) ?_
  refine w_nil ?_
  refine tq_n ?_
  refine c_seq ?_
  refine c_seq ?_
  refine c_region ?_
  refine w_mov rfl (by (conv => lhs; whnf) <;> rfl) ?_
  refine x_len rfl (by (conv => lhs; whnf) <;> rfl) ?_
  refine w_mov rfl (by (conv => lhs; whnf) <;> rfl) ?_
  refine x_len rfl (by (conv => lhs; whnf) <;> rfl) ?_
  refine w_neq rfl (by (conv => lhs; whnf) <;> rfl) (by (conv => lhs; whnf) <;> rfl) ?_
  refine w_nil ?_
  refine tq_n ?_
  refine c_cond_d (by (conv => lhs; whnf) <;> rfl) (fun hc10 => ?_) (fun hc10 => ?_)
  · refine c_seq ?_
    refine c_region ?_
    refine w_asg rfl (by (conv => lhs; whnf) <;> rfl) ?_
    refine w_nil ?_
    refine tq_n ?_
    refine c_ret ?_
    refine tq_r ?_
    exact rq_r (ra_t (by (conv => lhs; whnf) <;> rfl) .nil) (List.nil_sublist _) (⟨by rw [decide_eq_false (fun e => by subst e; exact hc10 rfl)]; rfl, rfl⟩)
  · refine c_skip ?_
    refine tq_n ?_
    refine c_seq ?_
    refine c_seq ?_
    refine c_region ?_
    refine w_asg rfl (by (conv => lhs; whnf) <;> rfl) ?_
    refine w_nil ?_
    refine tq_n ?_
    refine c_block ?_
    refine c_loop_ov [11, 12, 13, 14, 17, 18, 19, 20, 21, 22, 23, 24, 25, 4, 15, 16, 5] (fun m s L => ∃ k : Nat, k ≤ xs.length ∧ xs.take k = ys.take k ∧ m = xs.length - k ∧ s = [(5, .int .i64 k)] ∧ L = []) (xs.length) [(5, .int .i64 (0 : Nat))] (by repeat (first | exact .nil | refine .cons rfl ?_)) (by first | exact SubL.out | repeat (first | exact .refl _ | exact List.nil_sublist _ | refine .cons_cons _ ?_ | refine .cons _ ?_ | refine .append (.refl _) ?_ | exact List.sublist_append_left _ _ | refine .trans ?_ (List.sublist_append_right _ _))) (⟨0, by omega, by simp, by simp, rfl, rfl⟩) ?_
    rintro mI sI LI gL0 ⟨k, hk, hn, rfl, rfl, rfl⟩
    refine c_seq ?_
    refine c_seq ?_
    refine c_region ?_
    refine w_mov rfl (by (conv => lhs; whnf) <;> rfl) ?_
    refine w_mov rfl (by (conv => lhs; whnf) <;> rfl) ?_
    refine x_len rfl (by (conv => lhs; whnf) <;> rfl) ?_
    refine w_lss rfl (by (conv => lhs; whnf) <;> rfl) (by (conv => lhs; whnf) <;> rfl) ?_
    refine w_nil ?_
    refine tq_n ?_
    refine c_cond_d (by (conv => lhs; whnf) <;> rfl) (fun hc14 => ?_) (fun hc14 => ?_)
    · have hlt : k < xs.length := by omega
      have hlt' : k < ys.length := by omega
      refine c_skip ?_
      refine tq_n ?_
      refine c_seq ?_
      refine c_block ?_
      refine c_seq ?_
      refine c_draw mixed (by kernel_rfl) ?_
      refine w_mov rfl (by (conv => lhs; whnf) <;> rfl) ?_
      refine w_mov rfl (by (conv => lhs; whnf) <;> rfl) ?_
      refine x_ixA rfl (by (conv => lhs; whnf) <;> rfl) (by (conv => lhs; whnf) <;> rfl) (hA (ne_of_lt hlt)) (by omega) (by omega) ?_
      refine x_lda (vs := [.int .i64 (xs[k]'hlt).1.1, .int .i64 (xs[k]'hlt).1.2, .int .i64 (xs[k]'hlt).2]) rfl (by (conv => lhs; whnf) <;> rfl) (rfl) (rd3 (j := (k : Int)) (List.nil_sublist _) hR (getN hlt)) ?_
      refine w_mov rfl (by (conv => lhs; whnf) <;> rfl) ?_
      refine w_mov rfl (by (conv => lhs; whnf) <;> rfl) ?_
      refine x_ixA rfl (by (conv => lhs; whnf) <;> rfl) (by (conv => lhs; whnf) <;> rfl) (hA' (ne_of_lt hlt')) (by omega) (by omega) ?_
      refine x_lda (vs := [.int .i64 (ys[k]'hlt').1.1, .int .i64 (ys[k]'hlt').1.2, .int .i64 (ys[k]'hlt').2]) rfl (by (conv => lhs; whnf) <;> rfl) (rfl) (rd3 (j := (k : Int)) (List.nil_sublist _) hR' (getN hlt')) ?_
      refine x_neqs2 ([(xs[k]'hlt).1.1, (xs[k]'hlt).1.2]) ([(ys[k]'hlt').1.1, (ys[k]'hlt').1.2]) ((xs[k]'hlt).2) ((ys[k]'hlt').2) rfl (by (conv => lhs; whnf) <;> rfl) (by (conv => lhs; whnf) <;> rfl) rfl rfl ?_
      refine w_nil ?_
      refine tq_n ?_
      refine c_cond_d (by (conv => lhs; whnf) <;> rfl) (fun hc25 => ?_) (fun hc25 => ?_)
      · refine c_seq ?_
        refine c_region ?_
        refine w_asg rfl (by (conv => lhs; whnf) <;> rfl) ?_
        refine w_nil ?_
        refine tq_n ?_
        refine c_ret ?_
        refine bq_r ?_
        refine tq_r ?_
        refine tq_r ?_
        refine bq_r ?_
        refine tq_r ?_
        exact rq_r (ra_t (by (conv => lhs; whnf) <;> rfl) .nil) (List.nil_sublist _) (⟨by rw [decide_eq_false (fun e => by subst e; exact hc25 rfl)]; rfl, rfl⟩)
      · refine c_skip ?_
        refine bq_n ?_
        refine tq_n ?_
        refine c_region ?_
        refine w_mov rfl (by (conv => lhs; whnf) <;> rfl) ?_
        refine w_add rfl (by (conv => lhs; whnf) <;> rfl) (by (conv => lhs; whnf) <;> rfl) (by omega) ?_
        refine w_asg rfl (by (conv => lhs; whnf) <;> rfl) ?_
        refine w_nil ?_
        refine tq_n ?_
        exact ⟨(by repeat (first | exact Ag.refl | exact Ag.ov | (refine Ag.upd ?_ ?_; exact rfl) | refine Ag.putn ?_ | (refine Ag.ovs ?_ ?_; exact rfl))), xs.length - (k + 1), [(5, .int .i64 ((k + 1 : Nat) : Int))], _, by omega, (by first | exact SubL.out | repeat (first | exact .refl _ | exact List.nil_sublist _ | refine .cons_cons _ ?_ | refine .cons _ ?_ | refine .append (.refl _) ?_ | exact List.sublist_append_left _ _ | refine .trans ?_ (List.sublist_append_right _ _))), (by repeat (first | exact .nil | refine .cons rfl ?_)), ⟨k + 1, by omega, by rw [take_succ' hlt, take_succ' hlt', hn, cpy_ext (Decidable.not_not.1 hc25)], rfl, rfl, rfl⟩⟩
    · refine c_exit ?_
      refine tq_e ?_
      refine tq_e ?_
      refine bq_e ?_
      refine tq_n ?_
      refine c_seq ?_
      refine c_region ?_
      refine w_asg rfl (by (conv => lhs; whnf) <;> rfl) ?_
      refine w_nil ?_
      refine tq_n ?_
      refine c_ret ?_
      exact rq_r (ra_t (by (conv => lhs; whnf) <;> rfl) .nil) (List.nil_sublist _) (⟨by rw [List.take_of_length_le (by omega), List.take_of_length_le (by omega)] at hn; rw [decide_eq_true hn]; rfl, rfl⟩)
theorem foldr_g {v : Value} {t : Tb} {b : Int} (h : TabR w0 L v t) : Gives Try.prog w0 L 38 [v, .int .i64 b] (fun v' L' => ∃ S, L' = S ++ L ∧ OSl 118 3 v' ((foldA (mayT t) b).flatMap enC3) (foldA (mayT t) b).length S) := by
  refine enterB (R := fun v' S => OSl 118 3 v' ((foldA (mayT t) b).flatMap enC3) (foldA (mayT t) b).length S) Try.func38 rfl Try.ntmps38 Try.results38 (Nat.le_of_ble_eq_true rfl) fun w hM => ?_
  have hT := h.at hM
  obtain ⟨vd, vh, vl, rfl, hd, hh, hlo⟩ := ((h).at hM).ex; obtain ⟨Ad, cd, rfl, hdc, hdl, hdA, hdR⟩ := id hd.ex; obtain ⟨Ah, ch, rfl, hhc, hhl, hhA, hhR⟩ := id hh.ex; obtain ⟨Al, cl, rfl, hlc, hll, hlA, hlR⟩ := LogR.opn hlo
  clear hM
  have hm := mayT_may t
  have hLi := hm.1
  have hP := hLi.1.1.1
  refine c_seq ?_
  refine c_region ?_
  refine x_boxa rfl (by (conv => lhs; whnf) <;> rfl) ?_
  intro b2
  refine w_asg rfl (by (conv => lhs; whnf) <;> rfl) ?_
  refine w_nil ?_
  refine tq_n ?_
  refine c_seq ?_
  refine c_region ?_
  refine x_ldao rfl (by (conv => lhs; whnf) <;> rfl) (by first | exact HasC.out | exact PutC.out) rfl ?_
  refine x_call (mayr_g (hT.sub (List.nil_sublist _))) rfl rfl rfl ?_
  rintro _ _ ⟨S76, rfl, hS1, hS2⟩
  obtain ⟨Ad2, cd2, Ah2, ch2, Al2, cl2, rfl⟩ := (may_R hT hS1 hS2 (List.Sublist.refl _)).form
  refine x_stw rfl (by (conv => lhs; whnf) <;> rfl) (by (conv => lhs; whnf) <;> rfl) rfl rfl (by first | exact HasC.out | exact PutC.out) rfl ?_
  refine w_nil ?_
  refine tq_n ?_
  refine c_seq ?_
  refine c_region ?_
  refine w_asg rfl (by (conv => lhs; whnf) <;> rfl) ?_
  refine w_nil ?_
  refine tq_n ?_
  refine c_seq ?_
  refine c_seq ?_
  refine c_region_j [11, 12, 13, 14, 15, 16, 17, 18] 18 (.bool (decide (¬ (0 ≤ b ∧ b ≤ (mayT t).G - 1)))) ?_ (fun g3 => ?_)
  · all_goals (refine w_mov rfl (by (conv => lhs; whnf) <;> rfl) ?_)
    all_goals (refine w_lss rfl (by (conv => lhs; whnf) <;> rfl) (by (conv => lhs; whnf) <;> rfl) ?_)
    all_goals (refine w_mov rfl (by (conv => lhs; whnf) <;> rfl) ?_)
    all_goals (first | refine w_lit true rfl rfl rfl ?_ | refine w_lit false rfl rfl rfl ?_ | refine w_cases_od rfl rfl rfl (fun hg => ?_) (fun hg => ?_) | refine w_cases_o rfl rfl rfl (fun hg => ?_) (fun hg => ?_) | skip)
    all_goals (first | refine w_skip rfl ?_ | (refine w_mov rfl (by (conv => lhs; whnf) <;> rfl) ?_))
    all_goals (first | refine w_skip rfl ?_ | (refine x_fa rfl (by (conv => lhs; whnf) <;> rfl) ?_))
    all_goals (first | refine w_skip rfl ?_ | (refine x_ldo rfl (by (conv => lhs; whnf) <;> rfl) (by first | exact HasC.out | exact PutC.out) (by (conv => lhs; whnf) <;> rfl) ?_))
    all_goals (first | refine w_skip rfl ?_ | (refine w_geq rfl (by (conv => lhs; whnf) <;> rfl) (by (conv => lhs; whnf) <;> rfl) ?_))
    all_goals (first | refine w_pick_t rfl rfl (by (conv => lhs; whnf) <;> rfl) ?_ | refine w_pick_f rfl rfl (by (conv => lhs; whnf) <;> rfl) ?_)
    all_goals (refine w_nil ?_)
    all_goals (refine jn (by first | exact (Ag.upd rfl (Ag.upd rfl (Ag.upd rfl (Ag.upd rfl (Ag.upd rfl (Ag.upd rfl (Ag.upd rfl (Ag.upd rfl Ag.refl)))))))) | exact (by repeat (first | exact Ag.refl | exact Ag.ov | (refine Ag.upd ?_ ?_; exact rfl) | refine Ag.putn ?_ | (refine Ag.ovs ?_ ?_; exact rfl)))) (by (conv => lhs; whnf) <;> rfl) ?_)
    all_goals (exact congrArg Value.bool (by first | rfl | (refine decide_eq_decide.2 ?_; omega) | (refine (decide_eq_true ?_).symm; omega) | (refine (decide_eq_false ?_).symm; omega) | simp_all))
  refine tq_n ?_
  refine c_cond_d (by (conv => lhs; whnf) <;> rfl) (fun hc18 => ?_) (fun hc18 => ?_)
  · refine c_seq ?_
    refine c_region ?_
    refine w_asg rfl (by (conv => lhs; whnf) <;> rfl) ?_
    refine w_nil ?_
    refine tq_n ?_
    refine c_ret ?_
    refine tq_r ?_
    exact rq_r (ra_t (by (conv => lhs; whnf) <;> rfl) .nil) (List.nil_sublist _) ((by rw [foldA, if_neg hc18]; exact .nil))
  · have hin := Decidable.not_not.1 hc18
    refine c_skip ?_
    refine tq_n ?_
    refine c_seq ?_
    refine c_seq ?_
    refine c_region ?_
    refine w_asg rfl (by (conv => lhs; whnf) <;> rfl) ?_
    refine w_nil ?_
    refine tq_n ?_
    refine c_block ?_
    refine c_loop_ov [19, 20, 21, 22, 26, 27, 28, 29, 30, 31, 32, 33, 25, 34, 35, 7, 8, 36, 37, 38, 39, 40, 41, 42, 5, 23, 24, 6] (fun m s L => ∃ (o : Int) (v5 : Value) (S5 : Own), 0 ≤ o ∧ o ≤ (mayT t).P ∧ OSl 118 3 v5 ((cpL (mayT t) b 0 o).flatMap enC3) (cpL (mayT t) b 0 o).length S5 ∧ m = ((mayT t).P - o).toNat ∧ s = [(5, v5), (6, .int .i64 o)] ∧ L = S5 ++ (S76 ++ [(b2, B 43 (cT (mayT t) Ad2 cd2 Ah2 ch2 Al2 cl2))])) (((mayT t).P - 0).toNat) [(5, .slice none 0 0), (6, .int .i64 0)] (by repeat (first | exact .nil | refine .cons rfl ?_)) (by first | exact SubL.out | repeat (first | exact .refl _ | exact List.nil_sublist _ | refine .cons_cons _ ?_ | refine .cons _ ?_ | refine .append (.refl _) ?_ | exact List.sublist_append_left _ _ | refine .trans ?_ (List.sublist_append_right _ _))) (⟨0, _, [], by omega, by omega, by rw [cpL_zero]; exact .nil, rfl, rfl, rfl⟩) ?_
    rintro mI sI LI gL0 ⟨o, v5, S5, ho0, hoP, hS5, rfl, rfl, rfl⟩
    refine c_seq ?_
    refine c_seq ?_
    refine c_region ?_
    refine w_mov rfl (by (conv => lhs; whnf) <;> rfl) ?_
    refine x_fa rfl (by (conv => lhs; whnf) <;> rfl) ?_
    refine x_ldo rfl (by (conv => lhs; whnf) <;> rfl) (by first | exact HasC.out | exact PutC.out) (by (conv => lhs; whnf) <;> rfl) ?_
    refine w_lss rfl (by (conv => lhs; whnf) <;> rfl) (by (conv => lhs; whnf) <;> rfl) ?_
    refine w_nil ?_
    refine tq_n ?_
    refine c_cond_d (by (conv => lhs; whnf) <;> rfl) (fun hc22 => ?_) (fun hc22 => ?_)
    · have hpi := pg_in hLi hin.1 hin.2 ho0 hc22
      refine c_skip ?_
      refine tq_n ?_
      refine c_seq ?_
      refine c_block ?_
      refine c_seq ?_
      refine c_region ?_
      refine x_ldao rfl (by (conv => lhs; whnf) <;> rfl) (by first | exact HasC.out | exact PutC.out) rfl ?_
      refine w_mov rfl (by (conv => lhs; whnf) <;> rfl) ?_
      refine x_fa rfl (by (conv => lhs; whnf) <;> rfl) ?_
      refine x_ldo rfl (by (conv => lhs; whnf) <;> rfl) (by first | exact HasC.out | exact PutC.out) (by (conv => lhs; whnf) <;> rfl) ?_
      refine w_mul rfl (by (conv => lhs; whnf) <;> rfl) (by (conv => lhs; whnf) <;> rfl) (by omega) ?_
      refine w_mov rfl (by (conv => lhs; whnf) <;> rfl) ?_
      refine w_add rfl (by (conv => lhs; whnf) <;> rfl) (by (conv => lhs; whnf) <;> rfl) (by omega) ?_
      refine x_callp (by decide) (whereM_g (p := b * (mayT t).P + o) (may_R hT hS1 hS2 (by first | exact SubL.out | repeat (first | exact .refl _ | exact List.nil_sublist _ | refine .cons_cons _ ?_ | refine .cons _ ?_ | refine .append (.refl _) ?_ | exact List.sublist_append_left _ _ | refine .trans ?_ (List.sublist_append_right _ _)))) hm hpi.2.1 hpi.2.2.1) rfl rfl rfl ?_
      refine w_mov rfl (by (conv => lhs; whnf) <;> rfl) ?_
      refine w_ext rfl (by (conv => lhs; whnf) <;> rfl) (by (conv => lhs; whnf) <;> rfl) ?_
      refine w_ext rfl (by (conv => lhs; whnf) <;> rfl) (by (conv => lhs; whnf) <;> rfl) ?_
      refine x_al rfl ?_
      intro b7
      refine x_stw rfl (by (conv => lhs; whnf) <;> rfl) (by (conv => lhs; whnf) <;> rfl) rfl rfl (by first | exact HasC.out | exact PutC.out) rfl ?_
      refine w_asg rfl (by (conv => lhs; whnf) <;> rfl) ?_
      refine w_nil ?_
      refine tq_n ?_
      refine c_seq ?_
      refine c_region ?_
      refine w_mov rfl (by (conv => lhs; whnf) <;> rfl) ?_
      refine w_nil ?_
      refine tq_n ?_
      refine c_cond (by (conv => lhs; whnf) <;> rfl) (fun hc36 => ?_) (fun hc36 => ?_)
      · refine c_region ?_
        refine w_mov rfl (by (conv => lhs; whnf) <;> rfl) ?_
        refine x_ldao rfl (by (conv => lhs; whnf) <;> rfl) (by first | exact HasC.out | exact PutC.out) rfl ?_
        refine w_mov rfl (by (conv => lhs; whnf) <;> rfl) ?_
        refine x_bld rfl (.cons (by (conv => lhs; whnf) <;> rfl) (.cons (by (conv => lhs; whnf) <;> rfl) .nil)) rfl ?_
        refine x_bs1 rfl (by (conv => lhs; whnf) <;> rfl) rfl rfl rfl rfl ?_
        intro b41
        refine x_app rfl (by (conv => lhs; whnf) <;> rfl) (by (conv => lhs; whnf) <;> rfl) (perm2) (hS5) (xs_new (by first | exact HasC.out | exact PutC.out)) (rfl) (rfl) (by have := cpL_len (t := mayT t) (b := b) (a := 0) (o := o); omega) (by decide) ?_
        rintro v9 S9 hS9'
        have hS9 : OSl 118 3 v9 ((cpL (mayT t) b 0 (o + 1)).flatMap enC3) (cpL (mayT t) b 0 (o + 1)).length S9 := (by rw [cpL_yes ho0 hc36]; exact snocC (n := 0) hS9')
        refine w_asg rfl (by (conv => lhs; whnf) <;> rfl) ?_
        refine w_nil ?_
        refine bq_n ?_
        refine tq_n ?_
        refine c_region ?_
        refine w_mov rfl (by (conv => lhs; whnf) <;> rfl) ?_
        refine w_add rfl (by (conv => lhs; whnf) <;> rfl) (by (conv => lhs; whnf) <;> rfl) (by omega) ?_
        refine w_asg rfl (by (conv => lhs; whnf) <;> rfl) ?_
        refine w_nil ?_
        refine tq_n ?_
        exact ⟨(by repeat (first | exact Ag.refl | exact Ag.ov | (refine Ag.upd ?_ ?_; exact rfl) | refine Ag.putn ?_ | (refine Ag.ovs ?_ ?_; exact rfl))), ((mayT t).P - (o + 1)).toNat, [(5, _), (6, .int .i64 (o + 1))], _, by omega, (by first | exact SubL.out | repeat (first | exact .refl _ | exact List.nil_sublist _ | refine .cons_cons _ ?_ | refine .cons _ ?_ | refine .append (.refl _) ?_ | exact List.sublist_append_left _ _ | refine .trans ?_ (List.sublist_append_right _ _))), (by repeat (first | exact .nil | refine .cons rfl ?_)), ⟨o + 1, _, _, by omega, by omega, hS9, rfl, rfl, rfl⟩⟩
      · have hS9 : OSl 118 3 v5 ((cpL (mayT t) b 0 (o + 1)).flatMap enC3) (cpL (mayT t) b 0 (o + 1)).length S5 := (by rw [cpL_no ho0 hc36]; exact hS5)
        refine c_skip ?_
        refine bq_n ?_
        refine tq_n ?_
        refine c_region ?_
        refine w_mov rfl (by (conv => lhs; whnf) <;> rfl) ?_
        refine w_add rfl (by (conv => lhs; whnf) <;> rfl) (by (conv => lhs; whnf) <;> rfl) (by omega) ?_
        refine w_asg rfl (by (conv => lhs; whnf) <;> rfl) ?_
        refine w_nil ?_
        refine tq_n ?_
        exact ⟨(by repeat (first | exact Ag.refl | exact Ag.ov | (refine Ag.upd ?_ ?_; exact rfl) | refine Ag.putn ?_ | (refine Ag.ovs ?_ ?_; exact rfl))), ((mayT t).P - (o + 1)).toNat, [(5, _), (6, .int .i64 (o + 1))], _, by omega, (by first | exact SubL.out | repeat (first | exact .refl _ | exact List.nil_sublist _ | refine .cons_cons _ ?_ | refine .cons _ ?_ | refine .append (.refl _) ?_ | exact List.sublist_append_left _ _ | refine .trans ?_ (List.sublist_append_right _ _))), (by repeat (first | exact .nil | refine .cons rfl ?_)), ⟨o + 1, _, _, by omega, by omega, hS9, rfl, rfl, rfl⟩⟩
    · have hoe : o = (mayT t).P := (by omega)
      subst hoe
      refine c_exit ?_
      refine tq_e ?_
      refine tq_e ?_
      refine bq_e ?_
      refine tq_n ?_
      refine c_seq ?_
      refine c_region ?_
      refine w_mov rfl (by (conv => lhs; whnf) <;> rfl) ?_
      refine w_asg rfl (by (conv => lhs; whnf) <;> rfl) ?_
      refine w_nil ?_
      refine tq_n ?_
      refine c_ret ?_
      exact rq_r (ra_t (by (conv => lhs; whnf) <;> rfl) .nil) (List.sublist_append_left _ _) ((by rw [foldA, if_pos hin]; exact hS5))
theorem restr_g {v : Value} {t : Tb} (h : TabR w0 L v t) : Gives Try.prog w0 L 40 [v] (fun v' L' => ∃ S, L' = S ++ L ∧ OSl 118 3 v' ((restA (mayT t)).flatMap enC3) (restA (mayT t)).length S) := by
  refine enterB (R := fun v' S => OSl 118 3 v' ((restA (mayT t)).flatMap enC3) (restA (mayT t)).length S) Try.func40 rfl Try.ntmps40 Try.results40 (Nat.le_of_ble_eq_true rfl) fun w hM => ?_
  have hT := h.at hM
  obtain ⟨vd, vh, vl, rfl, hd, hh, hlo⟩ := ((h).at hM).ex; obtain ⟨Ad, cd, rfl, hdc, hdl, hdA, hdR⟩ := id hd.ex; obtain ⟨Ah, ch, rfl, hhc, hhl, hhA, hhR⟩ := id hh.ex; obtain ⟨Al, cl, rfl, hlc, hll, hlA, hlR⟩ := LogR.opn hlo
  clear hM
  have hm := mayT_may t
  have hLi := hm.1
  have hP := hLi.1.1.1
  refine c_seq ?_
  refine c_region ?_
  refine x_boxa rfl (by (conv => lhs; whnf) <;> rfl) ?_
  intro b1
  refine w_asg rfl (by (conv => lhs; whnf) <;> rfl) ?_
  refine w_nil ?_
  refine tq_n ?_
  refine c_seq ?_
  refine c_region ?_
  refine x_ldao rfl (by (conv => lhs; whnf) <;> rfl) (by first | exact HasC.out | exact PutC.out) rfl ?_
  refine x_call (mayr_g (hT.sub (List.nil_sublist _))) rfl rfl rfl ?_
  rintro _ _ ⟨S76, rfl, hS1, hS2⟩
  obtain ⟨Ad2, cd2, Ah2, ch2, Al2, cl2, rfl⟩ := (may_R hT hS1 hS2 (List.Sublist.refl _)).form
  refine x_stw rfl (by (conv => lhs; whnf) <;> rfl) (by (conv => lhs; whnf) <;> rfl) rfl rfl (by first | exact HasC.out | exact PutC.out) rfl ?_
  refine w_nil ?_
  refine tq_n ?_
  refine c_seq ?_
  refine c_seq ?_
  refine c_region ?_
  refine x_fa rfl (by (conv => lhs; whnf) <;> rfl) ?_
  refine x_fa rfl (by (conv => lhs; whnf) <;> rfl) ?_
  refine x_ldo rfl (by (conv => lhs; whnf) <;> rfl) (by first | exact HasC.out | exact PutC.out) (by (conv => lhs; whnf) <;> rfl) ?_
  refine w_lss rfl (by (conv => lhs; whnf) <;> rfl) (by (conv => lhs; whnf) <;> rfl) ?_
  refine w_nil ?_
  refine tq_n ?_
  refine c_cond_d (by (conv => lhs; whnf) <;> rfl) (fun hc11 => ?_) (fun hc11 => ?_)
  · refine c_seq ?_
    refine c_region ?_
    refine w_asg rfl (by (conv => lhs; whnf) <;> rfl) ?_
    refine w_nil ?_
    refine tq_n ?_
    refine c_ret ?_
    refine tq_r ?_
    exact rq_r (ra_t (by (conv => lhs; whnf) <;> rfl) .nil) (List.nil_sublist _) ((by rw [restA, if_pos hc11]; exact .nil))
  · have hlen := foldA_len (b := (mayT t).sl) hLi
    have hfs := foldA_seq hLi hc11
    have hrf := restA_filter hLi hc11
    refine c_skip ?_
    refine tq_n ?_
    refine c_seq ?_
    refine c_region ?_
    refine x_ldao rfl (by (conv => lhs; whnf) <;> rfl) (by first | exact HasC.out | exact PutC.out) rfl ?_
    refine x_fa rfl (by (conv => lhs; whnf) <;> rfl) ?_
    refine x_fa rfl (by (conv => lhs; whnf) <;> rfl) ?_
    refine x_ldo rfl (by (conv => lhs; whnf) <;> rfl) (by first | exact HasC.out | exact PutC.out) (by (conv => lhs; whnf) <;> rfl) ?_
    refine x_call (foldr_g (may_R hT hS1 hS2 (by first | exact SubL.out | repeat (first | exact .refl _ | exact List.nil_sublist _ | refine .cons_cons _ ?_ | refine .cons _ ?_ | refine .append (.refl _) ?_ | exact List.sublist_append_left _ _ | refine .trans ?_ (List.sublist_append_right _ _))))) rfl rfl rfl ?_
    rintro _ _ ⟨S38, rfl, hS38⟩
    rw [mayT_idem, hfs] at hS38
    rw [hfs] at hlen
    obtain ⟨A8, c8, rfl, hcc8, hl8, hA8, hR8⟩ := (SlR.ofOSl (w0 := w) (L := S38) (xs := cpL (mayT t) (mayT t).sl 0 (mayT t).P) (enc := enC3) hS38 rfl (by omega) (List.Sublist.refl _)).ex
    obtain ⟨xs, hxs⟩ : ∃ xs, cpL (mayT t) (mayT t).sl 0 (mayT t).P = xs := ⟨_, rfl⟩
    rw [hxs] at hlen hrf hcc8 hl8 hA8 hR8 ⊢
    refine w_asg rfl (by (conv => lhs; whnf) <;> rfl) ?_
    refine w_nil ?_
    refine tq_n ?_
    refine c_seq ?_
    refine c_region ?_
    refine w_asg rfl (by (conv => lhs; whnf) <;> rfl) ?_
    refine w_nil ?_
    refine tq_n ?_
    refine c_seq ?_
    refine c_seq ?_
    refine c_region ?_
    refine w_asg rfl (by (conv => lhs; whnf) <;> rfl) ?_
    refine w_nil ?_
    refine tq_n ?_
    refine c_block ?_
    refine c_loop_ov [17, 18, 19, 20, 23, 24, 25, 26, 27, 28, 29, 30, 31, 32, 33, 34, 35, 36, 37, 38, 4, 21, 22, 5] (fun m s L => ∃ (k : Nat) (v4 : Value) (S4 : Own), k ≤ xs.length ∧ OSl 118 3 v4 (((xs.take k).filter (fun c => decide ((mayT t).su ≤ c.2))).flatMap enC3) ((xs.take k).filter (fun c => decide ((mayT t).su ≤ c.2))).length S4 ∧ m = xs.length - k ∧ s = [(4, v4), (5, .int .i64 k)] ∧ L = S4 ++ (S38 ++ (S76 ++ [(b1, B 43 (cT (mayT t) Ad2 cd2 Ah2 ch2 Al2 cl2))]))) (xs.length) [(4, .slice none 0 0), (5, .int .i64 (0 : Nat))] (by repeat (first | exact .nil | refine .cons rfl ?_)) (by first | exact SubL.out | repeat (first | exact .refl _ | exact List.nil_sublist _ | refine .cons_cons _ ?_ | refine .cons _ ?_ | refine .append (.refl _) ?_ | exact List.sublist_append_left _ _ | refine .trans ?_ (List.sublist_append_right _ _))) (⟨0, _, [], by omega, .nil, by omega, rfl, rfl⟩) ?_
    rintro mI sI LI gL0 ⟨k, v4, S4, hk, hS4, rfl, rfl, rfl⟩
    refine c_seq ?_
    refine c_seq ?_
    refine c_region ?_
    refine w_mov rfl (by (conv => lhs; whnf) <;> rfl) ?_
    refine w_mov rfl (by (conv => lhs; whnf) <;> rfl) ?_
    refine x_len rfl (by (conv => lhs; whnf) <;> rfl) ?_
    refine w_lss rfl (by (conv => lhs; whnf) <;> rfl) (by (conv => lhs; whnf) <;> rfl) ?_
    refine w_nil ?_
    refine tq_n ?_
    refine c_cond_d (by (conv => lhs; whnf) <;> rfl) (fun hc20 => ?_) (fun hc20 => ?_)
    · have hlt : k < xs.length := by omega
      refine c_skip ?_
      refine tq_n ?_
      refine c_seq ?_
      refine c_block ?_
      refine c_seq ?_
      refine c_draw mixed (by kernel_rfl) ?_
      refine w_mov rfl (by (conv => lhs; whnf) <;> rfl) ?_
      refine w_mov rfl (by (conv => lhs; whnf) <;> rfl) ?_
      refine x_ixA rfl (by (conv => lhs; whnf) <;> rfl) (by (conv => lhs; whnf) <;> rfl) (hA8 (ne_of_lt hlt)) (by omega) (by omega) ?_
      refine x_fa rfl (by (conv => lhs; whnf) <;> rfl) ?_
      refine x_ld rfl (by (conv => lhs; whnf) <;> rfl) ((rd3 (j := (k : Int)) (by first | exact SubL.out | repeat (first | exact .refl _ | exact List.nil_sublist _ | refine .cons_cons _ ?_ | refine .cons _ ?_ | refine .append (.refl _) ?_ | exact List.sublist_append_left _ _ | refine .trans ?_ (List.sublist_append_right _ _))) hR8 (getN hlt)) 2 _ rfl) ?_
      refine x_fa rfl (by (conv => lhs; whnf) <;> rfl) ?_
      refine x_fa rfl (by (conv => lhs; whnf) <;> rfl) ?_
      refine x_ldo rfl (by (conv => lhs; whnf) <;> rfl) (by first | exact HasC.out | exact PutC.out) (by (conv => lhs; whnf) <;> rfl) ?_
      refine w_geq rfl (by (conv => lhs; whnf) <;> rfl) (by (conv => lhs; whnf) <;> rfl) ?_
      refine w_nil ?_
      refine tq_n ?_
      refine c_cond_d (by (conv => lhs; whnf) <;> rfl) (fun hc31 => ?_) (fun hc31 => ?_)
      · refine c_region ?_
        refine w_mov rfl (by (conv => lhs; whnf) <;> rfl) ?_
        refine w_mov rfl (by (conv => lhs; whnf) <;> rfl) ?_
        refine w_mov rfl (by (conv => lhs; whnf) <;> rfl) ?_
        refine x_ixA rfl (by (conv => lhs; whnf) <;> rfl) (by (conv => lhs; whnf) <;> rfl) (hA8 (ne_of_lt hlt)) (by omega) (by omega) ?_
        refine x_lda (vs := [.int .i64 (xs[k]'hlt).1.1, .int .i64 (xs[k]'hlt).1.2, .int .i64 (xs[k]'hlt).2]) rfl (by (conv => lhs; whnf) <;> rfl) (rfl) (rd3 (j := (k : Int)) (by first | exact SubL.out | repeat (first | exact .refl _ | exact List.nil_sublist _ | refine .cons_cons _ ?_ | refine .cons _ ?_ | refine .append (.refl _) ?_ | exact List.sublist_append_left _ _ | refine .trans ?_ (List.sublist_append_right _ _))) hR8 (getN hlt)) ?_
        refine x_bs1 rfl (by (conv => lhs; whnf) <;> rfl) rfl rfl rfl rfl ?_
        intro b37
        refine x_app rfl (by (conv => lhs; whnf) <;> rfl) (by (conv => lhs; whnf) <;> rfl) (perm1) (hS4) (xs_new (by first | exact HasC.out | exact PutC.out)) (rfl) (rfl) (by have := List.length_filter_le (fun c : Cpy => decide ((mayT t).su ≤ c.2)) (xs.take k); rw [List.length_take] at this; omega) (by decide) ?_
        rintro v9 S9 hS9'
        have hS9 : OSl 118 3 v9 (((xs.take (k + 1)).filter (fun c => decide ((mayT t).su ≤ c.2))).flatMap enC3) ((xs.take (k + 1)).filter (fun c => decide ((mayT t).su ≤ c.2))).length S9 := (by rw [take_succ' hlt, List.filter_append, List.filter_cons_of_pos (by simpa using hc31)]; exact snocC (n := 0) hS9')
        refine w_asg rfl (by (conv => lhs; whnf) <;> rfl) ?_
        refine w_nil ?_
        refine bq_n ?_
        refine tq_n ?_
        refine c_region ?_
        refine w_mov rfl (by (conv => lhs; whnf) <;> rfl) ?_
        refine w_add rfl (by (conv => lhs; whnf) <;> rfl) (by (conv => lhs; whnf) <;> rfl) (by omega) ?_
        refine w_asg rfl (by (conv => lhs; whnf) <;> rfl) ?_
        refine w_nil ?_
        refine tq_n ?_
        exact ⟨(by repeat (first | exact Ag.refl | exact Ag.ov | (refine Ag.upd ?_ ?_; exact rfl) | refine Ag.putn ?_ | (refine Ag.ovs ?_ ?_; exact rfl))), xs.length - (k + 1), [(4, _), (5, .int .i64 ((k + 1 : Nat) : Int))], _, by omega, (by first | exact SubL.out | repeat (first | exact .refl _ | exact List.nil_sublist _ | refine .cons_cons _ ?_ | refine .cons _ ?_ | refine .append (.refl _) ?_ | exact List.sublist_append_left _ _ | refine .trans ?_ (List.sublist_append_right _ _))), (by repeat (first | exact .nil | refine .cons rfl ?_)), ⟨k + 1, _, _, by omega, hS9, rfl, rfl, rfl⟩⟩
      · have hS9 : OSl 118 3 v4 (((xs.take (k + 1)).filter (fun c => decide ((mayT t).su ≤ c.2))).flatMap enC3) ((xs.take (k + 1)).filter (fun c => decide ((mayT t).su ≤ c.2))).length S4 := (by rw [take_succ' hlt, List.filter_append, List.filter_cons_of_neg (by simpa using hc31), List.filter_nil, List.append_nil]; exact hS4)
        refine c_skip ?_
        refine bq_n ?_
        refine tq_n ?_
        refine c_region ?_
        refine w_mov rfl (by (conv => lhs; whnf) <;> rfl) ?_
        refine w_add rfl (by (conv => lhs; whnf) <;> rfl) (by (conv => lhs; whnf) <;> rfl) (by omega) ?_
        refine w_asg rfl (by (conv => lhs; whnf) <;> rfl) ?_
        refine w_nil ?_
        refine tq_n ?_
        exact ⟨(by repeat (first | exact Ag.refl | exact Ag.ov | (refine Ag.upd ?_ ?_; exact rfl) | refine Ag.putn ?_ | (refine Ag.ovs ?_ ?_; exact rfl))), xs.length - (k + 1), [(4, _), (5, .int .i64 ((k + 1 : Nat) : Int))], _, by omega, (by first | exact SubL.out | repeat (first | exact .refl _ | exact List.nil_sublist _ | refine .cons_cons _ ?_ | refine .cons _ ?_ | refine .append (.refl _) ?_ | exact List.sublist_append_left _ _ | refine .trans ?_ (List.sublist_append_right _ _))), (by repeat (first | exact .nil | refine .cons rfl ?_)), ⟨k + 1, _, _, by omega, hS9, rfl, rfl, rfl⟩⟩
    · have hkk : k = xs.length := (by omega)
      rw [hkk, List.take_length] at hS4
      refine c_exit ?_
      refine tq_e ?_
      refine tq_e ?_
      refine bq_e ?_
      refine tq_n ?_
      refine c_seq ?_
      refine c_region ?_
      refine w_mov rfl (by (conv => lhs; whnf) <;> rfl) ?_
      refine w_asg rfl (by (conv => lhs; whnf) <;> rfl) ?_
      refine w_nil ?_
      refine tq_n ?_
      refine c_ret ?_
      exact rq_r (ra_t (by (conv => lhs; whnf) <;> rfl) .nil) (List.sublist_append_left _ _) ((by rw [hrf]; exact hS4))
theorem lfold_g {v : Value} {t : Tb} {b : Int} (h : TabR w0 L v t) : Gives Try.prog w0 L 37 [v, .int .i64 b] (fun v' L' => ∃ S, L' = S ++ L ∧ OSl 118 3 v' ((foldA (mayT t) b).flatMap enC3) (foldA (mayT t) b).length S) := by
  refine enterMB (R := fun v' S => OSl 118 3 v' ((foldA (mayT t) b).flatMap enC3) (foldA (mayT t) b).length S) Try.func37 rfl Try.ntmps37 Try.results37 (Nat.le_of_ble_eq_true rfl) fun w hM => ?_
  have hT := h.at hM
  obtain ⟨vd, vh, vl, rfl, hd, hh, hlo⟩ := ((h).at hM).ex; obtain ⟨Ad, cd, rfl, hdc, hdl, hdA, hdR⟩ := id hd.ex; obtain ⟨Ah, ch, rfl, hhc, hhl, hhA, hhR⟩ := id hh.ex; obtain ⟨Al, cl, rfl, hlc, hll, hlA, hlR⟩ := LogR.opn hlo
  clear hM
  have hfl := foldA_len (b := b) (mayT_may t).1
  refine m_seq ?_
  refine c_region ?_
  refine x_boxa rfl (by (conv => lhs; whnf) <;> rfl) ?_
  intro b2
  refine w_asg rfl (by (conv => lhs; whnf) <;> rfl) ?_
  refine w_nil ?_
  refine tm_n ?_
  refine m_seq ?_
  refine c_region ?_
  refine x_ldao rfl (by (conv => lhs; whnf) <;> rfl) (by first | exact HasC.out | exact PutC.out) rfl ?_
  refine w_mov rfl (by (conv => lhs; whnf) <;> rfl) ?_
  refine x_call (pfold_g (hT.sub (List.nil_sublist _))) rfl rfl rfl ?_
  rintro _ _ ⟨S75, rfl, gk, lb, hgk, rfl, hI⟩
  refine w_asg rfl (by (conv => lhs; whnf) <;> rfl) ?_
  refine w_nil ?_
  refine tm_n ?_
  refine m_seq ?_
  refine c_seq ?_
  refine c_region ?_
  refine w_mov rfl (by (conv => lhs; whnf) <;> rfl) ?_
  refine x_eqfn Try.underlying120 rfl (by (conv => lhs; whnf) <;> rfl) (by (conv => lhs; whnf) <;> rfl) ?_
  refine w_nil ?_
  refine tq_n ?_
  refine c_cond_f rfl ?_
  refine c_skip ?_
  refine tm_n ?_
  refine m_seq ?_
  refine c_region ?_
  refine x_al rfl ?_
  intro b6
  refine w_nil ?_
  refine tm_n ?_
  refine m_seqT ?_
  refine t_seq ?_
  refine c_region ?_
  refine w_mov rfl (by (conv => lhs; whnf) <;> rfl) ?_
  refine w_nil ?_
  refine tm_n ?_
  refine m_range (enC) (foldA (mayT t) b) (fun pre M => ∃ (v6 : Value) (S6 : Own), OSl 118 3 v6 (pre.flatMap enC3) pre.length S6 ∧ M = S6 ++ ((b6, B 86 [v6]) :: (S75 ++ [(b2, B 43 (cT t Ad cd Ah ch Al cl))]))) (by (conv => lhs; whnf) <;> rfl) CFN.out (fun _ => rfl) (⟨_, List.Perm.refl _, List.Sublist.refl _⟩) (⟨.slice none 0 0, [], .nil, rfl⟩) (fun w0 l J hJ hy => hI w0 l J (fun pre M hM => by obtain ⟨L1, hs, v6, S6, _, rfl⟩ := hJ pre M hM; exact List.Sublist.trans (by first | exact SubL.out | repeat (first | exact .refl _ | exact List.nil_sublist _ | refine .cons_cons _ ?_ | refine .cons _ ?_ | refine .append (.refl _) ?_ | exact List.sublist_append_left _ _ | refine .trans ?_ (List.sublist_append_right _ _))) hs) hy) ?_ ?_
  · intro l o o2 x0 pre x L1 hpre
    rintro ⟨v6, S6, hS6, rfl⟩
    refine rnd ?_
    have hpl := hpre.length_le
    rw [List.length_append, List.length_singleton] at hpl
    refine c_region ?_
    refine x_al rfl ?_
    intro b7
    refine x_stw rfl (by (conv => lhs; whnf) <;> rfl) (by (conv => lhs; whnf) <;> rfl) rfl rfl (by first | exact HasC.out | exact PutC.out) rfl ?_
    refine w_nil ?_
    refine asg_n ?_
    refine c_block ?_
    refine c_region ?_
    refine x_ldo rfl (by (conv => lhs; whnf) <;> rfl) (by first | exact HasC.out | exact PutC.out) (by (conv => lhs; whnf) <;> rfl) ?_
    refine x_ldao rfl (by (conv => lhs; whnf) <;> rfl) (by first | exact HasC.out | exact PutC.out) rfl ?_
    refine x_bs1 rfl (by (conv => lhs; whnf) <;> rfl) rfl rfl rfl rfl ?_
    intro b17
    refine x_app rfl (by (conv => lhs; whnf) <;> rfl) (by (conv => lhs; whnf) <;> rfl) ((TakS.out (S := S6))) (hS6) (xs_new (by first | exact HasC.out | exact PutC.out)) (rfl) (rfl) (by omega) (by decide) ?_
    rintro v8 S8 hS8
    refine x_st1 rfl (by (conv => lhs; whnf) <;> rfl) (by (conv => lhs; whnf) <;> rfl) (hS8.one) (by first | exact HasC.out | exact PutC.out) rfl ?_
    refine w_nil ?_
    refine bq_n ?_
    refine bod_n ?_
    exact ⟨_, in_x (by first | exact SubL.out | repeat (first | exact .refl _ | exact List.nil_sublist _ | refine .cons_cons _ ?_ | refine .cons _ ?_ | refine .append (.refl _) ?_ | exact List.sublist_append_left _ _ | refine .trans ?_ (List.sublist_append_right _ _))), v8, S8, snocC (n := 0) hS8, rfl⟩
  · intro d L1
    rintro ⟨v6, S6, hS6, rfl⟩
    refine m_seq ?_
    refine c_region ?_
    refine x_ldo rfl (by (conv => lhs; whnf) <;> rfl) (by first | exact HasC.out | exact PutC.out) (by (conv => lhs; whnf) <;> rfl) ?_
    refine w_asg rfl (by (conv => lhs; whnf) <;> rfl) ?_
    refine w_nil ?_
    refine tm_n ?_
    refine m_of ?_
    refine c_ret ?_
    skip
    refine kq_1 ?_
    exact rq_r (ra_t (by (conv => lhs; whnf) <;> rfl) .nil) (by first | exact SubL.out | repeat (first | exact .refl _ | exact List.nil_sublist _ | refine .cons_cons _ ?_ | refine .cons _ ?_ | refine .append (.refl _) ?_ | exact List.sublist_append_left _ _ | refine .trans ?_ (List.sublist_append_right _ _))) (hS6)
theorem lrest_g {v : Value} {t : Tb} (h : TabR w0 L v t) : Gives Try.prog w0 L 39 [v] (fun v' L' => ∃ S, L' = S ++ L ∧ OSl 118 3 v' ((restA (mayT t)).flatMap enC3) (restA (mayT t)).length S) := by
  refine enterMB (R := fun v' S => OSl 118 3 v' ((restA (mayT t)).flatMap enC3) (restA (mayT t)).length S) Try.func39 rfl Try.ntmps39 Try.results39 (Nat.le_of_ble_eq_true rfl) fun w hM => ?_
  have hT := h.at hM
  obtain ⟨vd, vh, vl, rfl, hd, hh, hlo⟩ := ((h).at hM).ex; obtain ⟨Ad, cd, rfl, hdc, hdl, hdA, hdR⟩ := id hd.ex; obtain ⟨Ah, ch, rfl, hhc, hhl, hhA, hhR⟩ := id hh.ex; obtain ⟨Al, cl, rfl, hlc, hll, hlA, hlR⟩ := LogR.opn hlo
  clear hM
  have hfl := restA_len (mayT_may t).1
  refine m_seq ?_
  refine c_region ?_
  refine x_boxa rfl (by (conv => lhs; whnf) <;> rfl) ?_
  intro b1
  refine w_asg rfl (by (conv => lhs; whnf) <;> rfl) ?_
  refine w_nil ?_
  refine tm_n ?_
  refine m_seq ?_
  refine c_region ?_
  refine x_ldao rfl (by (conv => lhs; whnf) <;> rfl) (by first | exact HasC.out | exact PutC.out) rfl ?_
  refine x_call (prest_g (hT.sub (List.nil_sublist _))) rfl rfl rfl ?_
  rintro _ _ ⟨S75, rfl, gk, lb, hgk, rfl, hI⟩
  refine w_asg rfl (by (conv => lhs; whnf) <;> rfl) ?_
  refine w_nil ?_
  refine tm_n ?_
  refine m_seq ?_
  refine c_seq ?_
  refine c_region ?_
  refine w_mov rfl (by (conv => lhs; whnf) <;> rfl) ?_
  refine x_eqfn Try.underlying120 rfl (by (conv => lhs; whnf) <;> rfl) (by (conv => lhs; whnf) <;> rfl) ?_
  refine w_nil ?_
  refine tq_n ?_
  refine c_cond_f rfl ?_
  refine c_skip ?_
  refine tm_n ?_
  refine m_seq ?_
  refine c_region ?_
  refine x_al rfl ?_
  intro b4
  refine w_nil ?_
  refine tm_n ?_
  refine m_seqT ?_
  refine t_seq ?_
  refine c_region ?_
  refine w_mov rfl (by (conv => lhs; whnf) <;> rfl) ?_
  refine w_nil ?_
  refine tm_n ?_
  refine m_range (enC) (restA (mayT t)) (fun pre M => ∃ (v6 : Value) (S6 : Own), OSl 118 3 v6 (pre.flatMap enC3) pre.length S6 ∧ M = S6 ++ ((b4, B 86 [v6]) :: (S75 ++ [(b1, B 43 (cT t Ad cd Ah ch Al cl))]))) (by (conv => lhs; whnf) <;> rfl) CFN.out (fun _ => rfl) (⟨_, List.Perm.refl _, List.Sublist.refl _⟩) (⟨.slice none 0 0, [], .nil, rfl⟩) (fun w0 l J hJ hy => hI w0 l J (fun pre M hM => by obtain ⟨L1, hs, v6, S6, _, rfl⟩ := hJ pre M hM; exact List.Sublist.trans (by first | exact SubL.out | repeat (first | exact .refl _ | exact List.nil_sublist _ | refine .cons_cons _ ?_ | refine .cons _ ?_ | refine .append (.refl _) ?_ | exact List.sublist_append_left _ _ | refine .trans ?_ (List.sublist_append_right _ _))) hs) hy) ?_ ?_
  · intro l o o2 x0 pre x L1 hpre
    rintro ⟨v6, S6, hS6, rfl⟩
    refine rnd ?_
    have hpl := hpre.length_le
    rw [List.length_append, List.length_singleton] at hpl
    refine c_region ?_
    refine x_al rfl ?_
    intro b5
    refine x_stw rfl (by (conv => lhs; whnf) <;> rfl) (by (conv => lhs; whnf) <;> rfl) rfl rfl (by first | exact HasC.out | exact PutC.out) rfl ?_
    refine w_nil ?_
    refine asg_n ?_
    refine c_block ?_
    refine c_region ?_
    refine x_ldo rfl (by (conv => lhs; whnf) <;> rfl) (by first | exact HasC.out | exact PutC.out) (by (conv => lhs; whnf) <;> rfl) ?_
    refine x_ldao rfl (by (conv => lhs; whnf) <;> rfl) (by first | exact HasC.out | exact PutC.out) rfl ?_
    refine x_bs1 rfl (by (conv => lhs; whnf) <;> rfl) rfl rfl rfl rfl ?_
    intro b14
    refine x_app rfl (by (conv => lhs; whnf) <;> rfl) (by (conv => lhs; whnf) <;> rfl) ((TakS.out (S := S6))) (hS6) (xs_new (by first | exact HasC.out | exact PutC.out)) (rfl) (rfl) (by omega) (by decide) ?_
    rintro v8 S8 hS8
    refine x_st1 rfl (by (conv => lhs; whnf) <;> rfl) (by (conv => lhs; whnf) <;> rfl) (hS8.one) (by first | exact HasC.out | exact PutC.out) rfl ?_
    refine w_nil ?_
    refine bq_n ?_
    refine bod_n ?_
    exact ⟨_, in_x (by first | exact SubL.out | repeat (first | exact .refl _ | exact List.nil_sublist _ | refine .cons_cons _ ?_ | refine .cons _ ?_ | refine .append (.refl _) ?_ | exact List.sublist_append_left _ _ | refine .trans ?_ (List.sublist_append_right _ _))), v8, S8, snocC (n := 0) hS8, rfl⟩
  · intro d L1
    rintro ⟨v6, S6, hS6, rfl⟩
    refine m_seq ?_
    refine c_region ?_
    refine x_ldo rfl (by (conv => lhs; whnf) <;> rfl) (by first | exact HasC.out | exact PutC.out) (by (conv => lhs; whnf) <;> rfl) ?_
    refine w_asg rfl (by (conv => lhs; whnf) <;> rfl) ?_
    refine w_nil ?_
    refine tm_n ?_
    refine m_of ?_
    refine c_ret ?_
    skip
    refine kq_1 ?_
    exact rq_r (ra_t (by (conv => lhs; whnf) <;> rfl) .nil) (by first | exact SubL.out | repeat (first | exact .refl _ | exact List.nil_sublist _ | refine .cons_cons _ ?_ | refine .cons _ ?_ | refine .append (.refl _) ?_ | exact List.sublist_append_left _ _ | refine .trans ?_ (List.sublist_append_right _ _))) (hS6)
end
end Go.Proofs.Ytnmhhelcaibdoaa.Pl
