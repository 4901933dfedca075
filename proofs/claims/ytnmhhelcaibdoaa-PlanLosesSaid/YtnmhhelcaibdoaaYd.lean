/- A flash writes a page: within as many steps as a block has pages, and three. -/
import Derived.Test.YtnmhhelcaibdoaaYc
namespace Go.Proofs.Ytnmhhelcaibdoaa.Pl
open Go Go.RowKit Sl
set_option linter.unusedVariables false
set_option linter.unusedSimpArgs false
theorem nodup_sub_len : ∀ (l xs : List Int), l.Nodup → (∀ x ∈ l, x ∈ xs) → l.length ≤ xs.length
  | [], xs, _, _ => Nat.zero_le _
  | x :: l, xs, h, hs => by
    obtain ⟨h1, h2⟩ := List.nodup_cons.1 h
    have hx := hs x List.mem_cons_self
    have := nodup_sub_len l (xs.erase x) h2 (fun y hy => (List.mem_erase_of_ne (fun e => h1 (by rw [← e]; exact hy))).2 (hs y (List.mem_cons_of_mem _ hy)))
    rw [List.length_erase_of_mem hx] at this
    have h0 := List.length_pos_of_mem hx
    rw [List.length_cons]; omega
theorem free_ex {t : Tb} (hm : May t) (hG : t.G ≤ 64) : ∃ x, frsh t x := by
  refine Classical.byContradiction fun hn => ?_
  have hall : ∀ x ∈ (List.range 256).map (fun i : Nat => (i : Int)), x ∈ usedL t := fun x hx => by
    obtain ⟨i, hi, rfl⟩ := List.mem_map.1 hx
    have := List.mem_range.1 hi
    refine Classical.byContradiction fun h => hn ⟨i, ⟨by omega, by omega⟩, h⟩
  have hnd : ((List.range 256).map (fun i : Nat => (i : Int))).Nodup := by
    unfold List.Nodup
    rw [List.pairwise_map]
    exact List.pairwise_lt_range.imp fun h => by omega
  have := nodup_sub_len _ _ hnd hall
  have h1 := hm.1.1.2.1
  have h2 := hm.1.1.2.2.2
  have h3 := hm.1.1.1.2.2
  have h4 := nn_len (t.sp :: t.da)
  unfold usedL at this
  simp only [List.length_map, List.length_range, List.length_append, List.length_cons] at this h4
  omega
theorem want_b {t : Tb} {p : Int} (hm : May t) (hp : inB t p) : (wantP t p).2 ≤ 9223372036854775807 := by
  have hP : 4 ≤ t.P := hm.1.1.1.1.1
  have hGP := gp_le hm.1.1.1
  have hG := hm.1.1.1.2.1
  have hH := hm.1.1.2.2.1
  have hsu : (t.sp = -1 ∧ t.sl = 0 ∧ t.su = 0) ∨ ((0 ≤ t.sp ∧ t.sp ≤ 255) ∧ (0 ≤ t.sl ∧ t.sl ≤ t.G - 1) ∧ 0 ≤ t.su ∧ t.su ≤ t.P) := hm.1.2.2
  have hd : ∀ x : Int, 0 ≤ x → x ≤ 8192 → x / t.P ≤ 8192 := fun x h0 h1 => Int.le_trans (Int.ediv_le_self _ h0) h1
  cases wc t p with
  | putS h hw => rw [hw]; have := hd p hp.1 (by omega); show p / t.P ≤ _; omega
  | openS h0 hs hw => rw [hw]; have := hd p hp.1 (by omega); show p / t.P ≤ _; omega
  | full h0 hs hl hw => rw [hw]; show t.sl ≤ _; omega
  | part h0 hs hl hk hw => rw [hw]; show t.sl ≤ _; omega
  | room h0 ho hr hw => rw [hw]; decide
  | openR h0 ho hr hk hw => rw [hw]; decide
  | vict h0 ho hr hk hx hx0 hw =>
    rename_i x
    rw [hw]
    obtain ⟨l, hl, hxl⟩ := hd_mem hx
    have h1 := ((hm.1.2.1 0 l hl).2.2 _ hxl).2
    have := hd x hx0 (by omega); show x / t.P ≤ _; omega
  | drop h0 ho hr hk hx hw => rw [hw]; decide
theorem did_true {t t' : Tb} {φ φ' : Fl} {k b p v : Int} (h : Did t φ k b p v t' φ' true) : PutK t φ p v t' φ' := by
  cases h with
  | put hk h => exact putk_of h
theorem did_false {t t' : Tb} {φ φ' : Fl} {p v : Int} (hm : May t) (hp : inB t p) (h : Did t φ (wantP t p).1 (wantP t p).2 p v t' φ' false) : Keep t φ t' φ' ∧ mu t' p < mu t p := by
  cases h with
  | mrg h => exact ⟨keep_mrg hm h, mu_dec hm hp h⟩
section
variable {w0 : World} {L R : Own}
theorem wantM_g {v : Value} {t : Tb} {p : Int} (h : TabR w0 L v t) (hm : May t) (hp : inB t p) : Gives Try.prog w0 L 18 [v, .int .i64 p] (fun v' L' => v' = weV (wantP t p, 0) ∧ L' = L) :=
  (want_g h).mono fun v' L' ⟨e1, e2⟩ => ⟨e1.trans (by rw [show want t p = (wantP t p, 0) from (if_pos hm).trans (if_pos hp)]), e2⟩
set_option maxHeartbeats 4000000 in
theorem write_g {bf bm : Nat} {c0 c1 c2 c3 c4 c5 c6 c7 c8 : Value} {es : Array MapEntry} {clk : Nat} {S : Own} {t : Tb} {φ : Fl} {p value : Int} (ho : [c0, c1, c2, c3, c4, c5, c6, c7, c8].all Value.oneCell' = true) (hT : TabO S (.agg #[c0, c1, c2, c3, c4, c5, c6, c7, c8]) t) (hpm : PM es.toList clk φ) (hm : May t) (hp : inB t p) (hG : t.G ≤ 64) :
    Gives Try.prog w0 ((bf, B 74 [c0, c1, c2, c3, c4, c5, c6, c7, c8, .map (some bm)]) :: (bm, .map es clk) :: (S ++ R)) 34 [.pointer (some ⟨bf, 0, none⟩), .int .i64 p, .int .i64 value]
      (fun v' L' => v' = .bool true ∧ ∃ t' φ' d0 d1 d2 d3 d4 d5 d6 d7 d8 es' clk' S', L' = (bf, B 74 [d0, d1, d2, d3, d4, d5, d6, d7, d8, .map (some bm)]) :: (bm, .map es' clk') :: (S' ++ R) ∧ [d0, d1, d2, d3, d4, d5, d6, d7, d8].all Value.oneCell' = true ∧ TabO S' (.agg #[d0, d1, d2, d3, d4, d5, d6, d7, d8]) t' ∧ PM es'.toList clk' φ' ∧ PutK t φ p value t' φ') := by
  obtain ⟨e0, e5⟩ := tabO_c hT
  subst e0; subst e5
  refine enter Try.func34 rfl Try.ntmps34 Try.results34 (Nat.le_of_ble_eq_true rfl) ?_
  have hP := hm.1.1.1.1
  refine c_seq ?_
  refine c_region ?_
  refine w_asg rfl (by (conv => lhs; whnf) <;> rfl) ?_
  refine w_nil ?_
  refine tq_n ?_
  refine c_seq ?_
  refine c_seq ?_
  refine c_region ?_
  refine w_mov rfl (by (conv => lhs; whnf) <;> rfl) ?_
  refine w_nilck rfl (by (conv => lhs; whnf) <;> rfl) ?_
  refine x_fa rfl (by (conv => lhs; whnf) <;> rfl) ?_
  refine x_fa rfl (by (conv => lhs; whnf) <;> rfl) ?_
  refine x_ldo rfl (by (conv => lhs; whnf) <;> rfl) (by first | exact HasC.out | exact PutC.out) (by (conv => lhs; whnf) <;> rfl) ?_
  refine w_add rfl (by (conv => lhs; whnf) <;> rfl) (by (conv => lhs; whnf) <;> rfl) (by omega) ?_
  refine w_mov rfl (by (conv => lhs; whnf) <;> rfl) ?_
  refine w_nil ?_
  refine tq_n ?_
  refine c_block ?_
  refine c_loop_ov [18, 20, 21, 22, 23, 24, 25, 19, 26, 27, 7, 8, 28, 29, 6, 31, 32, 33, 34, 35, 30, 36, 37, 9, 10, 38, 39, 40, 41, 42, 43, 44, 17] (fun m s L => ∃ (j : Nat) (t1 : Tb) (φ1 : Fl) (d1 d2 d3 d4 d6 d7 d8 : Value) (es1 : Array MapEntry) (clk1 : Nat) (S1 : Own), (j : Int) ≤ t.P + 3 ∧ Keep t φ t1 φ1 ∧ (mu t1 p : Int) ≤ t.P + 3 - j ∧ [.int .i64 t1.P, d1, d2, d3, d4, .int .i64 t1.sp, d6, d7, d8].all Value.oneCell' = true ∧ TabO S1 (.agg #[.int .i64 t1.P, d1, d2, d3, d4, .int .i64 t1.sp, d6, d7, d8]) t1 ∧ PM es1.toList clk1 φ1 ∧ m = (t.P + 3).toNat - j ∧ s = [(17, .int .i64 j)] ∧ L = (bf, B 74 [.int .i64 t1.P, d1, d2, d3, d4, .int .i64 t1.sp, d6, d7, d8, .map (some bm)]) :: (bm, .map es1 clk1) :: (S1 ++ R)) ((t.P + 3).toNat) [(17, .int .i64 (0 : Nat))] (by repeat (first | exact .nil | refine .cons rfl ?_)) (by first | exact SubL.out | repeat (first | exact .refl _ | exact List.nil_sublist _ | refine .cons_cons _ ?_ | refine .cons _ ?_ | refine .append (.refl _) ?_ | exact List.sublist_append_left _ _ | refine .trans ?_ (List.sublist_append_right _ _))) (⟨0, t, φ, c1, c2, c3, c4, c6, c7, c8, es, clk, S, by omega, .refl hm, by have := mu_le (p := p) hm.1; omega, ho, hT, hpm, by omega, rfl, rfl⟩) ?_
  rintro mI sI LI gL0 ⟨j, t1, φ1, d1, d2, d3, d4, d6, d7, d8, es1, clk1, S1, hj, hk, hmu, hd, hT1, hpm1, rfl, rfl, rfl⟩
  refine c_seq ?_
  refine c_region ?_
  refine w_lss rfl (by (conv => lhs; whnf) <;> rfl) (by (conv => lhs; whnf) <;> rfl) ?_
  refine w_nil ?_
  refine tq_n ?_
  refine c_seq ?_
  refine c_cond_d (by (conv => lhs; whnf) <;> rfl) (fun hc18 => ?_) (fun hc18 => ?_)
  · have hp1 : inB t1 p := (by unfold inB at hp ⊢; rw [hk.ha]; exact hp)
    refine c_skip ?_
    refine tq_n ?_
    refine c_seq ?_
    refine c_block ?_
    refine c_seq ?_
    refine c_region ?_
    refine w_mov rfl (by (conv => lhs; whnf) <;> rfl) ?_
    refine w_nilck rfl (by (conv => lhs; whnf) <;> rfl) ?_
    refine x_fa rfl (by (conv => lhs; whnf) <;> rfl) ?_
    refine x_ldao rfl (by (conv => lhs; whnf) <;> rfl) (by first | exact HasC.out | exact PutC.out) rfl ?_
    refine w_mov rfl (by (conv => lhs; whnf) <;> rfl) ?_
    refine x_callp (by decide) (wantM_g (hT1.use (by first | exact SubL.out | repeat (first | exact .refl _ | exact List.nil_sublist _ | refine .cons_cons _ ?_ | refine .cons _ ?_ | refine .append (.refl _) ?_ | exact List.sublist_append_left _ _ | refine .trans ?_ (List.sublist_append_right _ _)))) hk.may hp1) rfl rfl rfl ?_
    refine w_mov rfl (by (conv => lhs; whnf) <;> rfl) ?_
    refine w_ext rfl (by (conv => lhs; whnf) <;> rfl) (by (conv => lhs; whnf) <;> rfl) ?_
    refine w_ext rfl (by (conv => lhs; whnf) <;> rfl) (by (conv => lhs; whnf) <;> rfl) ?_
    refine x_al rfl ?_
    intro b7
    refine x_stw rfl (by (conv => lhs; whnf) <;> rfl) (by (conv => lhs; whnf) <;> rfl) rfl rfl (by first | exact HasC.out | exact PutC.out) rfl ?_
    refine w_asg rfl (by (conv => lhs; whnf) <;> rfl) ?_
    refine w_nil ?_
    refine tq_n ?_
    refine c_seq ?_
    refine c_seq ?_
    refine c_region ?_
    refine w_mov rfl (by (conv => lhs; whnf) <;> rfl) ?_
    refine w_neq rfl (by (conv => lhs; whnf) <;> rfl) (by (conv => lhs; whnf) <;> rfl) ?_
    refine w_nil ?_
    refine tq_n ?_
    refine c_cond_d (by (conv => lhs; whnf) <;> rfl) (fun hc29 => ?_) (fun hc29 => ?_)
    · exact absurd rfl hc29
    · refine c_skip ?_
      refine tq_n ?_
      refine c_seq ?_
      refine c_region ?_
      refine w_mov rfl (by (conv => lhs; whnf) <;> rfl) ?_
      refine x_ldao rfl (by (conv => lhs; whnf) <;> rfl) (by first | exact HasC.out | exact PutC.out) rfl ?_
      refine w_mov rfl (by (conv => lhs; whnf) <;> rfl) ?_
      refine w_mov rfl (by (conv => lhs; whnf) <;> rfl) ?_
      refine x_call (Gives.permL (does_g (bf := bf) (bm := bm) (R := (b7, _) :: R) (page := p) (value := value) hd hT1 hpm1 hk.may (free_ex hk.may (by rw [hk.G]; exact hG)) (want_b hk.may hp1) (can_of hk.may hp1)) (pm2 bf bm (S := S1))) rfl rfl rfl ?_
      rintro _ _ ⟨t2, φ2, dn, hdid, rfl, e0, e1, e2, e3, e4, e5, e6, e7, e8, es2, clk2, S2, rfl, he, hT2, hpm2⟩
      obtain ⟨q0, q5⟩ := tabO_c hT2
      subst q0
      subst q5
      refine w_mov rfl (by (conv => lhs; whnf) <;> rfl) ?_
      refine w_ext rfl (by (conv => lhs; whnf) <;> rfl) (by (conv => lhs; whnf) <;> rfl) ?_
      refine w_ext rfl (by (conv => lhs; whnf) <;> rfl) (by (conv => lhs; whnf) <;> rfl) ?_
      refine w_asg rfl (by (conv => lhs; whnf) <;> rfl) ?_
      refine w_asg rfl (by (conv => lhs; whnf) <;> rfl) ?_
      refine w_nil ?_
      refine tq_n ?_
      refine c_seq ?_
      refine c_region_j [38, 39, 40, 41, 42] 42 (.bool (decide (dn = true))) ?_ (fun g7 => ?_)
      · all_goals (refine w_mov rfl (by (conv => lhs; whnf) <;> rfl) ?_)
        all_goals (refine w_not rfl (by (conv => lhs; whnf) <;> rfl) ?_)
        all_goals (refine w_mov rfl (by (conv => lhs; whnf) <;> rfl) ?_)
        all_goals (first | refine w_lit true rfl rfl rfl ?_ | refine w_lit false rfl rfl rfl ?_ | refine w_cases_od rfl rfl rfl (fun hg => ?_) (fun hg => ?_) | refine w_cases_o rfl rfl rfl (fun hg => ?_) (fun hg => ?_) | skip)
        all_goals (first | refine w_skip rfl ?_ | (refine w_mov rfl (by (conv => lhs; whnf) <;> rfl) ?_))
        all_goals (first | refine w_pick_t rfl rfl (by (conv => lhs; whnf) <;> rfl) ?_ | refine w_pick_f rfl rfl (by (conv => lhs; whnf) <;> rfl) ?_)
        all_goals (refine w_nil ?_)
        all_goals (refine jn (by first | exact (Ag.upd rfl (Ag.upd rfl (Ag.upd rfl (Ag.upd rfl (Ag.upd rfl Ag.refl))))) | exact (by first | ((repeat (first | with_reducible exact Ag.refl | with_reducible exact Ag.ov | (with_reducible refine Ag.upd ?_ ?_; exact rfl) | with_reducible refine Ag.putn ?_ | (with_reducible refine Ag.ovs ?_ ?_; exact rfl))); done) | (repeat (first | exact Ag.refl | exact Ag.ov | (refine Ag.upd ?_ ?_; exact rfl) | refine Ag.putn ?_ | (refine Ag.ovs ?_ ?_; exact rfl))))) (by (conv => lhs; whnf) <;> rfl) ?_)
        all_goals (exact congrArg Value.bool (by cases dn <;> rfl))
      refine tq_n ?_
      refine c_cond_d (by (conv => lhs; whnf) <;> rfl) (fun hc42 => ?_) (fun hc42 => ?_)
      · subst hc42
        refine c_seq ?_
        refine c_region ?_
        refine w_mov rfl (by (conv => lhs; whnf) <;> rfl) ?_
        refine w_asg rfl (by (conv => lhs; whnf) <;> rfl) ?_
        refine w_nil ?_
        refine tq_n ?_
        refine c_ret ?_
        refine bq_r ?_
        refine tq_r ?_
        refine tq_r ?_
        refine bq_r ?_
        refine tq_r ?_
        exact rq_r (ra_t (by (conv => lhs; whnf) <;> rfl) .nil) (.cons_cons _ (.cons_cons _ (.append (.refl _) (.cons _ (.refl _))))) (⟨rfl, t2, φ2, _, _, _, _, _, _, _, _, _, es2, clk2, S2, rfl, he, hT2, hpm2, PutK.keep hk (did_true hdid)⟩)
      · have hdn : dn = false := (by simpa using hc42)
        subst hdn
        have hkm := did_false hk.may hp1 hdid
        refine c_skip ?_
        refine bq_n ?_
        refine tq_n ?_
        refine c_region ?_
        refine w_add rfl (by (conv => lhs; whnf) <;> rfl) (by (conv => lhs; whnf) <;> rfl) (by omega) ?_
        refine w_mov rfl (by (conv => lhs; whnf) <;> rfl) ?_
        refine w_nil ?_
        refine tq_n ?_
        exact ⟨(by first | ((repeat (first | with_reducible exact Ag.refl | with_reducible exact Ag.ov | (with_reducible refine Ag.upd ?_ ?_; exact rfl) | with_reducible refine Ag.putn ?_ | (with_reducible refine Ag.ovs ?_ ?_; exact rfl))); done) | (repeat (first | exact Ag.refl | exact Ag.ov | (refine Ag.upd ?_ ?_; exact rfl) | refine Ag.putn ?_ | (refine Ag.ovs ?_ ?_; exact rfl)))), (t.P + 3).toNat - (j + 1), [(17, .int .i64 ((j + 1 : Nat) : Int))], _, by omega, (.cons_cons _ (.cons_cons _ (.append (.refl _) (.cons _ (.refl _))))), (by repeat (first | exact .nil | refine .cons rfl ?_)), ⟨j + 1, t2, φ2, _, _, _, _, _, _, _, es2, clk2, S2, by omega, hk.trans hkm.1, by have := hkm.2; omega, he, hT2, hpm2, rfl, rfl, rfl⟩⟩
  · exact absurd hmu (by have := mu_pos (t := t1) (p := p); omega)
end
end Go.Proofs.Ytnmhhelcaibdoaa.Pl
