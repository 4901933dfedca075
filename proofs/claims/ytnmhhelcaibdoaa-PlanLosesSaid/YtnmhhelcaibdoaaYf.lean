/- PlanLoses, walked. -/
import Derived.Test.YtnmhhelcaibdoaaYd
import Derived.Test.YtnmhhelcaibdoaaSlQ
namespace Go.Proofs.Ytnmhhelcaibdoaa.Pl
open Go Go.RowKit Sl
set_option linter.unusedVariables false
set_option linter.unusedSimpArgs false
def encU (x : Int) : List Value := [.int .u16 x]
theorem rdU {w0 : World} {L : Own} {xs : List Int} {b o : Nat} (h : ∀ i c, (xs.flatMap encU)[i]? = some c → Rd w0 [] ⟨b, o + i, none⟩ c) {j : Int} {x : Int} (hx : xs[j.toNat]? = some x) : Rd w0 L ⟨b, o + j.toNat * 1, none⟩ (.int .u16 x) := by
  refine (h (j.toNat * 1) _ ?_).sub (List.nil_sublist _)
  exact flat_get (enc := encU) (s := 1) (fun _ => rfl) xs j.toNat 0 x _ hx rfl
/-- Where a page is said to stand, there stands what was written last. -/
def LI (t : Tb) (φ : Fl) (es : List MapEntry) : Prop := ∀ q : Int, 0 ≤ q → q < t.ha.length → (mfind q es = none ∧ whr t q = none) ∨ ∃ iv pl, mfind q es = some (.int .i64 iv) ∧ whr t q = some pl ∧ φ pl = some iv
theorem li_new {p g k : Int} : LI (newT p g k) (fun _ => none) [] := fun q h0 h1 => by
  refine .inl ⟨rfl, ?_⟩
  have hl : lwhr (newT p g k).lo q = none := rfl
  have hlt : q.toNat < (newT p g k).ha.length := by omega
  refine whr_non hl (fun h => by have := h.1; simp [newT] at this) hlt ?_
  simp [newT]
theorem li_put {t t' : Tb} {φ φ' : Fl} {p v : Int} {es es' : List MapEntry} (h : LI t φ es) (hK : PutK t φ p v t' φ') (hf : ∀ k, mfind k es' = if k = p then some (.int .i64 v) else mfind k es) : LI t' φ' es' := fun q h0 h1 => by
  rw [hK.ha] at h1
  by_cases hq : q = p
  · subst hq
    obtain ⟨pl, h2, h3⟩ := hK.self
    exact .inr ⟨v, pl, by rw [hf, if_pos rfl], h2, h3⟩
  · rw [hf, if_neg hq]
    rcases h q h0 h1 with ⟨h2, h3⟩ | ⟨iv, pl, h2, h3, h4⟩
    · exact .inl ⟨h2, hK.non q h0 h1 hq h3⟩
    · obtain ⟨pl', h5, h6⟩ := hK.som q pl h0 h1 hq h3
      exact .inr ⟨iv, pl', h2, h5, h6 iv h4⟩
theorem li_end {ov : Option Int} {w : Option (Int × Int)} {φ : Fl} (h : (ov = none ∧ w = none) ∨ ∃ iv pl, ov = some iv ∧ w = some pl ∧ φ pl = some iv) : (¬ ov.isSome ≠ w.isSome) ∧ (w.isSome = true → (!(φ (pa w, pb w)).isSome) = true → False) ∧ (w.isSome = true → (φ (pa w, pb w)).getD 0 = ov.getD 0) := by
  rcases h with ⟨rfl, rfl⟩ | ⟨iv, pl, rfl, rfl, h⟩
  · simp
  · have e : (pa (some pl), pb (some pl)) = pl := rfl
    simp [e, h]
theorem li_ov {t : Tb} {φ : Fl} {es : List MapEntry} (h : LI t φ es) {q : Int} (h0 : 0 ≤ q) (h1 : q < t.ha.length) : ∃ ov : Option Int, mfind q es = ov.map (Value.int .i64) ∧ ((ov = none ∧ whr t q = none) ∨ ∃ iv pl, ov = some iv ∧ whr t q = some pl ∧ φ pl = some iv) := by
  rcases h q h0 h1 with ⟨h2, h3⟩ | ⟨iv, pl, h2, h3, h4⟩
  · exact ⟨none, h2, .inl ⟨rfl, h3⟩⟩
  · exact ⟨some iv, h2, .inr ⟨iv, pl, rfl, h3, h4⟩⟩
section
variable {w0 : World} {L : Own}
theorem whereK_g {v : Value} {t : Tb} {p : Int} (h : TabR w0 L v t) (hm : May t) (h0 : 0 ≤ p) (h1 : p < t.ha.length) : Gives Try.prog w0 L 27 [v, .int .i64 p] (fun v' L' => v' = plcV (whr t p) ∧ L' = L) :=
  (Where_g h).mono fun v' L' ⟨e1, e2⟩ => ⟨e1.trans (by rw [show whrM t p = whr t p by unfold whrM; rw [mayT_of hm]; exact if_pos ⟨h0, by omega⟩]), e2⟩
theorem checkK_g {v : Value} {x : Tb} (h : TabR w0 L v x) (hm : May x) : Gives Try.prog w0 L 30 [v] (fun v' L' => v' = .int .i64 0 ∧ L' = L) :=
  (check_g h).mono fun v' L' ⟨h1, h2⟩ => ⟨h1.trans (by rw [if_pos hm]), h2⟩
set_option maxHeartbeats 8000000 in
theorem loses_g {a b c : Int} {v : Value} {xs : List Int} (ha : 0 ≤ a ∧ a ≤ 255) (hb : 0 ≤ b ∧ b ≤ 255) (hc : 0 ≤ c ∧ c ≤ 255) (hv : SlR w0 L encU v xs) (hx : ∀ x ∈ xs, 0 ≤ x ∧ x ≤ 65535) : Gives Try.prog w0 L 9 [.agg #[.int .u8 a, .int .u8 b, .int .u8 c, v]] (fun v' L' => v' = .bool true ∧ L' = L) := by
  refine enterP Try.func9 rfl Try.ntmps9 Try.results9 (Nat.le_of_ble_eq_true rfl) fun w hM => ?_
  obtain ⟨A, cap, rfl, hcap, hlen, hA, hR⟩ := (hv.at hM).ex
  clear hM
  have hsz : Sz (a % 8 + 4) (b % 6 + 1) (c % 3 + 1) := by unfold Sz; omega
  have hm0 := may_new hsz
  obtain ⟨N, hN⟩ : ∃ N : Nat, N = (newT (a % 8 + 4) (b % 6 + 1) (c % 3 + 1)).ha.length := ⟨_, rfl⟩
  have hNH : (N : Int) = (b % 6 + 1) * (a % 8 + 4) := by rw [hN]; exact hm0.1.1.2.2.1
  have hN0 : 4 ≤ N := by have := (gp_le hsz).1; rw [← hNH] at this; omega
  have hN8 : N ≤ 8192 := by have := (gp_le hsz).2; rw [← hNH] at this; omega
  refine c_seq ?_
  refine c_region ?_
  refine x_boxa rfl (by (conv => lhs; whnf) <;> rfl) ?_
  intro b1
  refine w_asg rfl (by (conv => lhs; whnf) <;> rfl) ?_
  refine w_nil ?_
  refine tq_n ?_
  refine c_seq ?_
  refine c_seq ?_
  refine c_region ?_
  refine x_callp (by decide) (live_g) rfl rfl rfl ?_
  refine w_not rfl (by (conv => lhs; whnf) <;> rfl) ?_
  refine w_nil ?_
  refine tq_n ?_
  refine c_cond_f rfl ?_
  refine c_skip ?_
  refine tq_n ?_
  refine c_seq ?_
  refine c_region ?_
  refine x_fa rfl (by (conv => lhs; whnf) <;> rfl) ?_
  refine x_ldo rfl (by (conv => lhs; whnf) <;> rfl) (by first | exact HasC.out | exact PutC.out) (by (conv => lhs; whnf) <;> rfl) ?_
  refine x_remk rfl (by (conv => lhs; whnf) <;> rfl) (by (conv => lhs; whnf) <;> rfl) (by omega) (by omega) ?_
  refine x_cv Try.underlying5 Try.underlying3 rfl (by (conv => lhs; whnf) <;> rfl) (by show IntKind.wrap .i64 _ = _; simp [IntKind.wrap, IntKind.bits, IntKind.signed]; omega) ?_
  refine w_add rfl (by (conv => lhs; whnf) <;> rfl) (by (conv => lhs; whnf) <;> rfl) (by omega) ?_
  refine x_fa rfl (by (conv => lhs; whnf) <;> rfl) ?_
  refine x_ldo rfl (by (conv => lhs; whnf) <;> rfl) (by first | exact HasC.out | exact PutC.out) (by (conv => lhs; whnf) <;> rfl) ?_
  refine x_remk rfl (by (conv => lhs; whnf) <;> rfl) (by (conv => lhs; whnf) <;> rfl) (by omega) (by omega) ?_
  refine x_cv Try.underlying5 Try.underlying3 rfl (by (conv => lhs; whnf) <;> rfl) (by show IntKind.wrap .i64 _ = _; simp [IntKind.wrap, IntKind.bits, IntKind.signed]; omega) ?_
  refine w_add rfl (by (conv => lhs; whnf) <;> rfl) (by (conv => lhs; whnf) <;> rfl) (by omega) ?_
  refine x_fa rfl (by (conv => lhs; whnf) <;> rfl) ?_
  refine x_ldo rfl (by (conv => lhs; whnf) <;> rfl) (by first | exact HasC.out | exact PutC.out) (by (conv => lhs; whnf) <;> rfl) ?_
  refine x_remk rfl (by (conv => lhs; whnf) <;> rfl) (by (conv => lhs; whnf) <;> rfl) (by omega) (by omega) ?_
  refine x_cv Try.underlying5 Try.underlying3 rfl (by (conv => lhs; whnf) <;> rfl) (by show IntKind.wrap .i64 _ = _; simp [IntKind.wrap, IntKind.bits, IntKind.signed]; omega) ?_
  refine w_add rfl (by (conv => lhs; whnf) <;> rfl) (by (conv => lhs; whnf) <;> rfl) (by omega) ?_
  refine x_call (new_g) rfl rfl rfl ?_
  rintro _ _ ⟨S35, rfl, hS35⟩
  obtain ⟨tv, rfl, hO⟩ := hS35.1 hsz
  obtain ⟨q0, q1, q2, q3, q4, q5, q6, q7, q8, rfl, hqo⟩ := tabO_cells hO
  obtain ⟨Ad, cd, Ah, ch, Al, cl, he0⟩ := (hO default _ (List.Sublist.refl _)).form
  have he1 := congrArg Array.toList (Value.agg.inj he0)
  simp only [List.cons.injEq] at he1
  obtain ⟨_, _, _, _, e4, _⟩ := he1
  rw [← hN] at e4
  subst e4
  refine w_mov rfl (by (conv => lhs; whnf) <;> rfl) ?_
  refine w_ext rfl (by (conv => lhs; whnf) <;> rfl) (by (conv => lhs; whnf) <;> rfl) ?_
  refine w_ext rfl (by (conv => lhs; whnf) <;> rfl) (by (conv => lhs; whnf) <;> rfl) ?_
  refine x_al rfl ?_
  intro b3
  refine x_stw rfl (by (conv => lhs; whnf) <;> rfl) (by (conv => lhs; whnf) <;> rfl) (rfl) (hqo) (by first | exact HasC.out | exact PutC.out) (by exact rfl) ?_
  refine w_asg rfl (by (conv => lhs; whnf) <;> rfl) ?_
  refine w_nil ?_
  refine tq_n ?_
  refine c_seq ?_
  refine c_seq ?_
  refine c_region ?_
  refine w_mov rfl (by (conv => lhs; whnf) <;> rfl) ?_
  refine w_neq rfl (by (conv => lhs; whnf) <;> rfl) (by (conv => lhs; whnf) <;> rfl) ?_
  refine w_nil ?_
  refine tq_n ?_
  refine c_cond_d (by (conv => lhs; whnf) <;> rfl) (fun hc39 => ?_) (fun hc39 => ?_)
  · exact absurd rfl hc39
  · refine c_skip ?_
    refine tq_n ?_
    refine c_seq ?_
    refine c_region ?_
    refine x_ldao rfl (by (conv => lhs; whnf) <;> rfl) (by first | exact HasC.out | exact PutC.out) rfl ?_
    refine x_mm rfl ?_
    intro b41
    refine x_bld rfl (.cons (by (conv => lhs; whnf) <;> rfl) (.cons (by (conv => lhs; whnf) <;> rfl) .nil)) rfl ?_
    refine x_boxa rfl (by (conv => lhs; whnf) <;> rfl) ?_
    intro b43
    refine w_asg rfl (by (conv => lhs; whnf) <;> rfl) ?_
    refine w_nil ?_
    refine tq_n ?_
    refine c_mid_p [44, 6] (fun s L => ∃ z : Nat, s = [(6, .map (some z))] ∧ L = (b43, B 74 [q0, q1, q2, q3, .slice Ah N ch, q5, q6, q7, q8, .map (some b41)]) :: (b41, .map #[] 0) :: (S35 ++ ((z, .map #[] 0) :: (b3, B 43 [q0, q1, q2, q3, .slice Ah N ch, q5, q6, q7, q8]) :: [(b1, B 80 [.int .u8 a, .int .u8 b, .int .u8 c, .slice A xs.length cap])]))) ?_ ?_
    · refine c_region ?_
      refine x_mm rfl ?_
      intro b44
      refine w_asg rfl (by (conv => lhs; whnf) <;> rfl) ?_
      refine w_nil ?_
      refine tq_n ?_
      exact ⟨(by first | ((repeat (first | with_reducible exact Ag.refl | with_reducible exact Ag.ov | (with_reducible refine Ag.upd ?_ ?_; exact rfl) | with_reducible refine Ag.putn ?_ | (with_reducible refine Ag.ovs ?_ ?_; exact rfl))); done) | (repeat (first | exact Ag.refl | exact Ag.ov | (refine Ag.upd ?_ ?_; exact rfl) | refine Ag.putn ?_ | (refine Ag.ovs ?_ ?_; exact rfl)))), [(6, _)], _, (by first | (refine ⟨_, pm2 b43 b41 (S := S35), ?_⟩; ((first | exact SubL.out | repeat (first | exact .refl _ | exact List.nil_sublist _ | refine .cons_cons _ ?_ | refine .cons _ ?_ | refine .append (.refl _) ?_ | exact List.sublist_append_left _ _ | refine .trans ?_ (List.sublist_append_right _ _)))); done)), (by repeat (first | exact .nil | refine .cons rfl ?_)), ⟨_, rfl, rfl⟩⟩
    · rintro sM LM gM ⟨b44, rfl, rfl⟩
      refine c_seq ?_
      refine c_seq ?_
      refine c_region ?_
      refine x_fa rfl (by (conv => lhs; whnf) <;> rfl) ?_
      refine x_ldo rfl (by (conv => lhs; whnf) <;> rfl) (by first | exact HasC.out | exact PutC.out) (by (conv => lhs; whnf) <;> rfl) ?_
      refine x_fa rfl (by (conv => lhs; whnf) <;> rfl) ?_
      refine x_ldo rfl (by (conv => lhs; whnf) <;> rfl) (by first | exact HasC.out | exact PutC.out) (by (conv => lhs; whnf) <;> rfl) ?_
      refine x_len rfl (by (conv => lhs; whnf) <;> rfl) ?_
      refine x_min ((((min xs.length 120 : Nat)) : Int)) rfl (by (conv => lhs; whnf) <;> rfl) (by (conv => lhs; whnf) <;> rfl) (by split <;> omega) ?_
      refine x_sl0 (h := min xs.length 120) rfl (by (conv => lhs; whnf) <;> rfl) (⟨rfl, rfl⟩) (by omega) ?_
      refine x_len rfl (by (conv => lhs; whnf) <;> rfl) ?_
      refine w_mov rfl (by (conv => lhs; whnf) <;> rfl) ?_
      refine w_nil ?_
      refine tq_n ?_
      refine c_block ?_
      refine c_loop_ov [54, 55, 56, 57, 7, 8, 58, 59, 60, 61, 62, 63, 9, 64, 65, 66, 67, 68, 2, 69, 70, 71, 72, 53] (fun m s L => ∃ (k : Nat) (t1 : Tb) (φ1 : Fl) (d0 d1 d2 d3 d4 d5 d6 d7 d8 : Value) (es1 es3 : Array MapEntry) (clk1 clk3 : Nat) (S1 : Own), k ≤ min xs.length 120 ∧ May t1 ∧ t1.ha.length = N ∧ t1.G = b % 6 + 1 ∧ [d0, d1, d2, d3, d4, d5, d6, d7, d8].all Value.oneCell' = true ∧ TabO S1 (.agg #[d0, d1, d2, d3, d4, d5, d6, d7, d8]) t1 ∧ PM es1.toList clk1 φ1 ∧ mkeys es3.toList ∧ LI t1 φ1 es3.toList ∧ m = min xs.length 120 - k ∧ s = [(53, .int .i64 k)] ∧ L = (b43, B 74 [d0, d1, d2, d3, d4, d5, d6, d7, d8, .map (some b41)]) :: (b41, .map es1 clk1) :: (S1 ++ ((b44, .map es3 clk3) :: (b3, B 43 [q0, q1, q2, q3, .slice Ah N ch, q5, q6, q7, q8]) :: [(b1, B 80 [.int .u8 a, .int .u8 b, .int .u8 c, .slice A xs.length cap])]))) (min xs.length 120) [(53, .int .i64 (0 : Nat))] (by repeat (first | exact .nil | refine .cons rfl ?_)) (by first | exact SubL.out | repeat (first | exact .refl _ | exact List.nil_sublist _ | refine .cons_cons _ ?_ | refine .cons _ ?_ | refine .append (.refl _) ?_ | exact List.sublist_append_left _ _ | refine .trans ?_ (List.sublist_append_right _ _))) (⟨0, _, _, _, _, _, _, _, _, _, _, _, #[], #[], 0, 0, S35, by omega, hm0, hN.symm, rfl, hqo, hO, PM.nil, (fun e he => by cases he), li_new, by omega, rfl, rfl⟩) ?_
      rintro mI sI LI gL0 ⟨k, t1, φ1, d0, d1, d2, d3, d4, d5, d6, d7, d8, es1, es3, clk1, clk3, S1, hk, hm1, hn1, hG1, hd, hT1, hpm1, hk3, hLI, rfl, rfl, rfl⟩
      refine c_seq ?_
      refine c_region ?_
      refine w_lss rfl (by (conv => lhs; whnf) <;> rfl) (by (conv => lhs; whnf) <;> rfl) ?_
      refine w_nil ?_
      refine tq_n ?_
      refine c_seq ?_
      refine c_cond_d (by (conv => lhs; whnf) <;> rfl) (fun hc54 => ?_) (fun hc54 => ?_)
      · have hlt : k < min xs.length 120 := (by omega)
        have hlt2 : k < xs.length := (by omega)
        have hxk := hx _ (List.getElem_mem hlt2)
        have hp1 := Int.emod_nonneg (xs[k]'hlt2) (show (N : Int) ≠ 0 by omega)
        have hp2 := Int.emod_lt_of_pos (xs[k]'hlt2) (show 0 < (N : Int) by omega)
        refine c_skip ?_
        refine tq_n ?_
        refine c_seq ?_
        refine c_block ?_
        refine c_seq ?_
        refine c_region ?_
        refine w_mov rfl (by (conv => lhs; whnf) <;> rfl) ?_
        refine x_ixA rfl (by (conv => lhs; whnf) <;> rfl) (by (conv => lhs; whnf) <;> rfl) (hA (ne_of_lt hlt2)) (by omega) (by omega) ?_
        refine x_ld rfl (by (conv => lhs; whnf) <;> rfl) (rdU (j := (k : Int)) hR (getN hlt2)) ?_
        refine w_asg rfl (by (conv => lhs; whnf) <;> rfl) ?_
        refine w_asg rfl (by (conv => lhs; whnf) <;> rfl) ?_
        refine w_nil ?_
        refine tq_n ?_
        refine c_seq ?_
        refine c_region ?_
        refine w_mov rfl (by (conv => lhs; whnf) <;> rfl) ?_
        refine x_cv Try.underlying83 Try.underlying3 rfl (by (conv => lhs; whnf) <;> rfl) (by show IntKind.wrap .i64 _ = _; simp [IntKind.wrap, IntKind.bits, IntKind.signed]; omega) ?_
        refine x_fa rfl (by (conv => lhs; whnf) <;> rfl) ?_
        refine x_ldo rfl (by (conv => lhs; whnf) <;> rfl) (by first | exact HasC.out | exact PutC.out) (by (conv => lhs; whnf) <;> rfl) ?_
        refine x_len rfl (by (conv => lhs; whnf) <;> rfl) ?_
        refine w_rem rfl (by (conv => lhs; whnf) <;> rfl) (by (conv => lhs; whnf) <;> rfl) (by omega) (by omega) ?_
        refine w_asg rfl (by (conv => lhs; whnf) <;> rfl) ?_
        refine w_nil ?_
        refine tq_n ?_
        refine c_seq ?_
        refine c_seq ?_
        refine c_region ?_
        refine w_mov rfl (by (conv => lhs; whnf) <;> rfl) ?_
        refine w_mov rfl (by (conv => lhs; whnf) <;> rfl) ?_
        refine w_mov rfl (by (conv => lhs; whnf) <;> rfl) ?_
        refine x_call (write_g (bf := b43) (bm := b41) (value := (k : Int)) (p := (xs[k]'hlt2) % (N : Int)) hd hT1 hpm1 hm1 ⟨hp1, by omega⟩ (by omega)) rfl rfl rfl ?_
        rintro _ _ ⟨rfl, t2, φ2, e0, e1, e2, e3, e4, e5, e6, e7, e8, es2, clk2, S2, rfl, he, hT2, hpm2, hK⟩
        refine w_not rfl (by (conv => lhs; whnf) <;> rfl) ?_
        refine w_nil ?_
        refine tq_n ?_
        refine c_cond_f rfl ?_
        refine c_skip ?_
        refine tq_n ?_
        refine c_region ?_
        refine w_mov rfl (by (conv => lhs; whnf) <;> rfl) ?_
        refine w_mov rfl (by (conv => lhs; whnf) <;> rfl) ?_
        refine w_mov rfl (by (conv => lhs; whnf) <;> rfl) ?_
        refine x_mu (Lf := fun o => (b43, B 74 [e0, e1, e2, e3, e4, e5, e6, e7, e8, .map (some b41)]) :: (b41, .map es2 clk2) :: (S2 ++ ((b44, o) :: (b3, B 43 [q0, q1, q2, q3, .slice Ah N ch, q5, q6, q7, q8]) :: [(b1, B 80 [.int .u8 a, .int .u8 b, .int .u8 c, .slice A xs.length cap])]))) rfl (by (conv => lhs; whnf) <;> rfl) (by (conv => lhs; whnf) <;> rfl) (by (conv => lhs; whnf) <;> rfl) (fun _ => (by first | exact HasC.out | exact PutC.out)) (hk3) ?_
        rintro es4 clk4 hk4 hf4
        refine w_nil ?_
        refine bq_n ?_
        refine tq_n ?_
        refine c_region ?_
        refine w_add rfl (by (conv => lhs; whnf) <;> rfl) (by (conv => lhs; whnf) <;> rfl) (by omega) ?_
        refine w_mov rfl (by (conv => lhs; whnf) <;> rfl) ?_
        refine w_nil ?_
        refine tq_n ?_
        exact ⟨(by first | ((repeat (first | with_reducible exact Ag.refl | with_reducible exact Ag.ov | (with_reducible refine Ag.upd ?_ ?_; exact rfl) | with_reducible refine Ag.putn ?_ | (with_reducible refine Ag.ovs ?_ ?_; exact rfl))); done) | (repeat (first | exact Ag.refl | exact Ag.ov | (refine Ag.upd ?_ ?_; exact rfl) | refine Ag.putn ?_ | (refine Ag.ovs ?_ ?_; exact rfl)))), min xs.length 120 - (k + 1), [(53, .int .i64 ((k + 1 : Nat) : Int))], _, by omega, (by first | exact SubL.out | repeat (first | exact .refl _ | exact List.nil_sublist _ | refine .cons_cons _ ?_ | refine .cons _ ?_ | refine .append (.refl _) ?_ | exact List.sublist_append_left _ _ | refine .trans ?_ (List.sublist_append_right _ _))), (by repeat (first | exact .nil | refine .cons rfl ?_)), ⟨k + 1, t2, φ2, _, _, _, _, _, _, _, _, _, es2, es4, clk2, clk4, S2, by omega, hK.may, hK.ha.trans hn1, hK.G.trans hG1, he, hT2, hpm2, hk4, li_put hLI hK hf4, rfl, rfl, rfl⟩⟩
      · refine c_exit ?_
        refine tq_e ?_
        refine tq_e ?_
        refine bq_e ?_
        refine tq_n ?_
        refine c_seq ?_
        refine c_seq ?_
        refine c_region ?_
        refine x_fa rfl (by (conv => lhs; whnf) <;> rfl) ?_
        refine x_ldo rfl (by (conv => lhs; whnf) <;> rfl) (by first | exact HasC.out | exact PutC.out) (by (conv => lhs; whnf) <;> rfl) ?_
        refine x_len rfl (by (conv => lhs; whnf) <;> rfl) ?_
        refine w_mov rfl (by (conv => lhs; whnf) <;> rfl) ?_
        refine w_nil ?_
        refine tq_n ?_
        refine c_block ?_
        refine c_loop_ov [77, 78, 10, 80, 81, 82, 79, 83, 84, 11, 12, 86, 87, 88, 89, 90, 91, 85, 92, 93, 13, 14, 95, 96, 97, 98, 99, 100, 94, 101, 102, 15, 16, 103, 104, 105, 106, 107, 108, 109, 110, 111, 112, 113, 114, 115, 116, 117, 2, 118, 76] (fun m s L => ∃ (j : Nat), j ≤ N ∧ m = N - j ∧ s = [(76, .int .i64 j)] ∧ L = (b43, B 74 [d0, d1, d2, d3, d4, d5, d6, d7, d8, .map (some b41)]) :: (b41, .map es1 clk1) :: (S1 ++ ((b44, .map es3 clk3) :: (b3, B 43 [q0, q1, q2, q3, .slice Ah N ch, q5, q6, q7, q8]) :: [(b1, B 80 [.int .u8 a, .int .u8 b, .int .u8 c, .slice A xs.length cap])]))) (N) [(76, .int .i64 (0 : Nat))] (by repeat (first | exact .nil | refine .cons rfl ?_)) (by first | exact SubL.out | repeat (first | exact .refl _ | exact List.nil_sublist _ | refine .cons_cons _ ?_ | refine .cons _ ?_ | refine .append (.refl _) ?_ | exact List.sublist_append_left _ _ | refine .trans ?_ (List.sublist_append_right _ _))) (⟨0, by omega, by omega, rfl, rfl⟩) ?_
        rintro mI sI LI gL1 ⟨j, hj, rfl, rfl, rfl⟩
        refine c_seq ?_
        refine c_region ?_
        refine w_lss rfl (by (conv => lhs; whnf) <;> rfl) (by (conv => lhs; whnf) <;> rfl) ?_
        refine w_nil ?_
        refine tq_n ?_
        refine c_seq ?_
        refine c_cond_d (by (conv => lhs; whnf) <;> rfl) (fun hc77 => ?_) (fun hc77 => ?_)
        · have hjN : j < N := (by omega)
          obtain ⟨ov, hov, hq⟩ := li_ov hLI (q := (j : Int)) (by omega) (by omega)
          have hz := li_end (φ := φ1) hq
          refine c_skip ?_
          refine tq_n ?_
          refine c_seq ?_
          refine c_block ?_
          refine c_seq ?_
          refine c_region ?_
          refine w_mov rfl (by (conv => lhs; whnf) <;> rfl) ?_
          refine w_asg rfl (by (conv => lhs; whnf) <;> rfl) ?_
          refine w_nil ?_
          refine tq_n ?_
          refine c_seq ?_
          refine c_region ?_
          refine w_mov rfl (by (conv => lhs; whnf) <;> rfl) ?_
          refine w_mov rfl (by (conv => lhs; whnf) <;> rfl) ?_
          refine x_lko (ov) rfl (hov) rfl (by (conv => lhs; whnf) <;> rfl) (by (conv => lhs; whnf) <;> rfl) (by first | exact HasC.out | exact PutC.out) (hk3) ?_
          refine w_mov rfl (by (conv => lhs; whnf) <;> rfl) ?_
          refine w_ext rfl (by (conv => lhs; whnf) <;> rfl) (by (conv => lhs; whnf) <;> rfl) ?_
          refine w_ext rfl (by (conv => lhs; whnf) <;> rfl) (by (conv => lhs; whnf) <;> rfl) ?_
          refine w_asg rfl (by (conv => lhs; whnf) <;> rfl) ?_
          refine w_asg rfl (by (conv => lhs; whnf) <;> rfl) ?_
          refine w_nil ?_
          refine tq_n ?_
          refine c_seq ?_
          refine c_region ?_
          refine w_mov rfl (by (conv => lhs; whnf) <;> rfl) ?_
          refine w_nilck rfl (by (conv => lhs; whnf) <;> rfl) ?_
          refine x_fa rfl (by (conv => lhs; whnf) <;> rfl) ?_
          refine x_ldao rfl (by (conv => lhs; whnf) <;> rfl) (by first | exact HasC.out | exact PutC.out) rfl ?_
          refine w_mov rfl (by (conv => lhs; whnf) <;> rfl) ?_
          refine x_callp (by decide) (whereK_g (hT1.use (by first | exact SubL.out | repeat (first | exact .refl _ | exact List.nil_sublist _ | refine .cons_cons _ ?_ | refine .cons _ ?_ | refine .append (.refl _) ?_ | exact List.sublist_append_left _ _ | refine .trans ?_ (List.sublist_append_right _ _)))) hm1 (show (0 : Int) ≤ (j : Int) by omega) (by omega)) rfl rfl rfl ?_
          refine w_mov rfl (by (conv => lhs; whnf) <;> rfl) ?_
          refine w_ext rfl (by (conv => lhs; whnf) <;> rfl) (by (conv => lhs; whnf) <;> rfl) ?_
          refine w_ext rfl (by (conv => lhs; whnf) <;> rfl) (by (conv => lhs; whnf) <;> rfl) ?_
          refine x_al rfl ?_
          intro b13
          refine x_stw rfl (by (conv => lhs; whnf) <;> rfl) (by (conv => lhs; whnf) <;> rfl) rfl rfl (by first | exact HasC.out | exact PutC.out) rfl ?_
          refine w_asg rfl (by (conv => lhs; whnf) <;> rfl) ?_
          refine w_nil ?_
          refine tq_n ?_
          refine c_seq ?_
          refine c_draw mixed (by kernel_rfl) ?_
          refine w_mov rfl (by (conv => lhs; whnf) <;> rfl) ?_
          refine w_nilck rfl (by (conv => lhs; whnf) <;> rfl) ?_
          refine x_fa rfl (by (conv => lhs; whnf) <;> rfl) ?_
          refine x_ldo rfl (by (conv => lhs; whnf) <;> rfl) (by first | exact HasC.out | exact PutC.out) (by (conv => lhs; whnf) <;> rfl) ?_
          refine x_ldao rfl (by (conv => lhs; whnf) <;> rfl) (by first | exact HasC.out | exact PutC.out) rfl ?_
          refine x_lk2 ((pa (whr t1 (j : Int)), pb (whr t1 (j : Int)))) rfl (by (conv => lhs; whnf) <;> rfl) (by (conv => lhs; whnf) <;> rfl) (by first | exact HasC.out | exact PutC.out) (hpm1) ?_
          refine w_mov rfl (by (conv => lhs; whnf) <;> rfl) ?_
          refine w_ext rfl (by (conv => lhs; whnf) <;> rfl) (by (conv => lhs; whnf) <;> rfl) ?_
          refine w_ext rfl (by (conv => lhs; whnf) <;> rfl) (by (conv => lhs; whnf) <;> rfl) ?_
          refine w_asg rfl (by (conv => lhs; whnf) <;> rfl) ?_
          refine w_asg rfl (by (conv => lhs; whnf) <;> rfl) ?_
          refine w_nil ?_
          refine tq_n ?_
          refine c_seq ?_
          refine c_region_j [103, 104, 105, 106, 107, 108, 109, 110, 111, 112, 113, 114, 115, 116, 117] 117 (.bool (decide (False))) ?_ (fun g22 => ?_)
          · all_goals (refine w_mov rfl (by (conv => lhs; whnf) <;> rfl) ?_)
            all_goals (refine w_mov rfl (by (conv => lhs; whnf) <;> rfl) ?_)
            all_goals (refine x_neqb Try.underlying4 rfl (by (conv => lhs; whnf) <;> rfl) (by (conv => lhs; whnf) <;> rfl) ?_)
            all_goals (refine w_mov rfl (by (conv => lhs; whnf) <;> rfl) ?_)
            all_goals (first | refine w_lit true rfl rfl rfl ?_ | refine w_lit false rfl rfl rfl ?_ | refine w_cases_od rfl rfl rfl (fun hg => ?_) (fun hg => ?_) | refine w_cases_o rfl rfl rfl (fun hg => ?_) (fun hg => ?_) | skip)
            all_goals (first | refine w_skip rfl ?_ | (refine w_mov rfl (by (conv => lhs; whnf) <;> rfl) ?_))
            all_goals (first | refine w_skip rfl ?_ | (refine w_mov rfl (by (conv => lhs; whnf) <;> rfl) ?_))
            all_goals (first | refine w_lit true rfl rfl rfl ?_ | refine w_lit false rfl rfl rfl ?_ | refine w_cases_od rfl rfl rfl (fun hg => ?_) (fun hg => ?_) | refine w_cases_o rfl rfl rfl (fun hg => ?_) (fun hg => ?_) | skip)
            all_goals (first | refine w_skip rfl ?_ | (refine w_mov rfl (by (conv => lhs; whnf) <;> rfl) ?_))
            all_goals (first | refine w_skip rfl ?_ | (refine w_not rfl (by (conv => lhs; whnf) <;> rfl) ?_))
            all_goals (first | refine w_skip rfl ?_ | (refine w_mov rfl (by (conv => lhs; whnf) <;> rfl) ?_))
            all_goals (first | refine w_lit true rfl rfl rfl ?_ | refine w_lit false rfl rfl rfl ?_ | refine w_cases_od rfl rfl rfl (fun hg => ?_) (fun hg => ?_) | refine w_cases_o rfl rfl rfl (fun hg => ?_) (fun hg => ?_) | skip)
            all_goals (first | refine w_skip rfl ?_ | (refine w_mov rfl (by (conv => lhs; whnf) <;> rfl) ?_))
            all_goals (first | refine w_skip rfl ?_ | (refine w_mov rfl (by (conv => lhs; whnf) <;> rfl) ?_))
            all_goals (first | refine w_skip rfl ?_ | (refine w_neq rfl (by (conv => lhs; whnf) <;> rfl) (by (conv => lhs; whnf) <;> rfl) ?_))
            all_goals (first | refine w_skip rfl ?_ | (first | refine w_pick_t rfl rfl (by (conv => lhs; whnf) <;> rfl) ?_ | refine w_pick_f rfl rfl (by (conv => lhs; whnf) <;> rfl) ?_))
            all_goals (first | refine w_skip rfl ?_ | (first | refine w_pick_t rfl rfl (by (conv => lhs; whnf) <;> rfl) ?_ | refine w_pick_f rfl rfl (by (conv => lhs; whnf) <;> rfl) ?_))
            all_goals (first | refine w_pick_t rfl rfl (by (conv => lhs; whnf) <;> rfl) ?_ | refine w_pick_f rfl rfl (by (conv => lhs; whnf) <;> rfl) ?_)
            all_goals (refine w_nil ?_)
            all_goals (refine jn (by first | exact (Ag.upd rfl (Ag.upd rfl (Ag.upd rfl (Ag.upd rfl (Ag.upd rfl (Ag.upd rfl (Ag.upd rfl (Ag.upd rfl (Ag.upd rfl (Ag.upd rfl (Ag.upd rfl (Ag.upd rfl (Ag.upd rfl (Ag.upd rfl (Ag.upd rfl Ag.refl))))))))))))))) | exact (by first | ((repeat (first | with_reducible exact Ag.refl | with_reducible exact Ag.ov | (with_reducible refine Ag.upd ?_ ?_; exact rfl) | with_reducible refine Ag.putn ?_ | (with_reducible refine Ag.ovs ?_ ?_; exact rfl))); done) | (repeat (first | exact Ag.refl | exact Ag.ov | (refine Ag.upd ?_ ?_; exact rfl) | refine Ag.putn ?_ | (refine Ag.ovs ?_ ?_; exact rfl))))) (by (conv => lhs; whnf) <;> rfl) ?_)
            all_goals (exact (by first | rfl | exact absurd hg hz.1 | exact (hz.2.1 (by assumption) hg).elim | exact congrArg Value.bool (decide_eq_decide.2 ⟨fun h => h (hz.2.2 (by assumption)), False.elim⟩)))
          refine tq_n ?_
          refine c_cond_d (by (conv => lhs; whnf) <;> rfl) (fun hc117 => ?_) (fun hc117 => ?_)
          · exact hc117.elim
          · refine c_skip ?_
            refine bq_n ?_
            refine tq_n ?_
            refine c_region ?_
            refine w_add rfl (by (conv => lhs; whnf) <;> rfl) (by (conv => lhs; whnf) <;> rfl) (by omega) ?_
            refine w_mov rfl (by (conv => lhs; whnf) <;> rfl) ?_
            refine w_nil ?_
            refine tq_n ?_
            exact ⟨(by first | ((repeat (first | with_reducible exact Ag.refl | with_reducible exact Ag.ov | (with_reducible refine Ag.upd ?_ ?_; exact rfl) | with_reducible refine Ag.putn ?_ | (with_reducible refine Ag.ovs ?_ ?_; exact rfl))); done) | (repeat (first | exact Ag.refl | exact Ag.ov | (refine Ag.upd ?_ ?_; exact rfl) | refine Ag.putn ?_ | (refine Ag.ovs ?_ ?_; exact rfl)))), N - (j + 1), [(76, .int .i64 ((j + 1 : Nat) : Int))], _, by omega, (by first | exact SubL.out | repeat (first | exact .refl _ | exact List.nil_sublist _ | refine .cons_cons _ ?_ | refine .cons _ ?_ | refine .append (.refl _) ?_ | exact List.sublist_append_left _ _ | refine .trans ?_ (List.sublist_append_right _ _))), (by repeat (first | exact .nil | refine .cons rfl ?_)), ⟨j + 1, by omega, rfl, rfl, rfl⟩⟩
        · refine c_exit ?_
          refine tq_e ?_
          refine tq_e ?_
          refine bq_e ?_
          refine tq_n ?_
          refine c_seq ?_
          refine c_region ?_
          refine w_mov rfl (by (conv => lhs; whnf) <;> rfl) ?_
          refine w_nilck rfl (by (conv => lhs; whnf) <;> rfl) ?_
          refine x_fa rfl (by (conv => lhs; whnf) <;> rfl) ?_
          refine x_ldao rfl (by (conv => lhs; whnf) <;> rfl) (by first | exact HasC.out | exact PutC.out) rfl ?_
          refine x_callp (by decide) (checkK_g (hT1.use (by first | exact SubL.out | repeat (first | exact .refl _ | exact List.nil_sublist _ | refine .cons_cons _ ?_ | refine .cons _ ?_ | refine .append (.refl _) ?_ | exact List.sublist_append_left _ _ | refine .trans ?_ (List.sublist_append_right _ _)))) hm1) rfl rfl rfl ?_
          refine w_eql rfl (by (conv => lhs; whnf) <;> rfl) (by (conv => lhs; whnf) <;> rfl) ?_
          refine w_asg rfl (by (conv => lhs; whnf) <;> rfl) ?_
          refine w_nil ?_
          refine tq_n ?_
          refine c_ret ?_
          exact rq_r (ra_t (by (conv => lhs; whnf) <;> rfl) .nil) (List.nil_sublist _) (⟨rfl, rfl⟩)
end
end Go.Proofs.Ytnmhhelcaibdoaa.Pl
