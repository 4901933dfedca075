/- Which tables may be: the lists (plan.lists), the sequential log and the logs (slipwayref05.seq). -/
import Derived.Test.YtnmhhelcaibdoaaPb
namespace Go.Proofs.Ytnmhhelcaibdoaa.Pl
open Go Go.RowKit Sl
set_option linter.unusedVariables false
set_option linter.unusedSimpArgs false
abbrev LogOk (t : Tb) (i : Nat) (l : Lg) : Prop := (l.pg.length ≤ t.P ∧ (i + 1 < t.lo.length → (l.pg.length : Int) = t.P)) ∧ (0 ≤ l.ph ∧ l.ph ≤ 255) ∧ ∀ p ∈ l.pg, -1 ≤ p ∧ p ≤ t.G * t.P - 1
abbrev SeqOk (t : Tb) : Prop := (t.sp = -1 ∧ t.sl = 0 ∧ t.su = 0) ∨ ((0 ≤ t.sp ∧ t.sp ≤ 255) ∧ (0 ≤ t.sl ∧ t.sl ≤ t.G - 1) ∧ 0 ≤ t.su ∧ t.su ≤ t.P)
abbrev Head (t : Tb) : Prop := Sz t.P t.G t.K ∧ (t.da.length : Int) = t.G ∧ (t.ha.length : Int) = t.G * t.P ∧ (t.lo.length : Int) ≤ t.K
def Lists (t : Tb) : Prop := Head t ∧ (∀ i l, t.lo[i]? = some l → LogOk t i l) ∧ SeqOk t
section
variable {w0 w : World} {L : Own}
/-- The logs, opened. -/
theorem LogR.opn {v : Value} {lo : List Lg} (h : LogR w [] v lo) : ∃ A c, v = .slice A lo.length c ∧ lo.length ≤ c ∧ lo.length ≤ 1152921504606846976 ∧ (lo ≠ [] → A = some ⟨bk A, of_ A, none⟩) ∧
    ∀ k l, lo[k]? = some l → ∃ Ap cp, l.pg.length ≤ cp ∧ l.pg.length ≤ 1152921504606846976 ∧ (l.pg ≠ [] → Ap = some ⟨bk Ap, of_ Ap, none⟩) ∧ (∀ i c, (l.pg.flatMap encI)[i]? = some c → Rd w [] ⟨bk Ap, of_ Ap + i, none⟩ c) ∧ IL w [] (.slice Ap l.pg.length cp) l.pg ∧
      Rd w [] ⟨bk A, of_ A + k * 2, none⟩ (.int .i64 l.ph) ∧ Rd w [] ⟨bk A, of_ A + k * 2 + 1, none⟩ (.slice Ap l.pg.length cp) := by
  obtain ⟨lv, h1, h2, h3⟩ := h.ex
  obtain ⟨A, c, e1, e2, e3, e4, e5⟩ := h1.ex
  refine ⟨A, c, by rw [← h2]; exact e1, by omega, by omega, fun hn => e4 (fun e => hn (List.length_eq_zero_iff.1 (by rw [← h2, e]; rfl))), fun k l hk => ?_⟩
  have hlt : k < lo.length := (List.getElem?_eq_some_iff.1 hk).1
  have hlt' : k < lv.length := by omega
  obtain ⟨g1, g2⟩ := h3 k (lv[k]'hlt') l (getN hlt') hk
  obtain ⟨Ap, cp, p1, p2, p3, p4, p5⟩ := id g2.ex
  have f0 := flat_get (enc := encL) (s := 2) (fun _ => rfl) lv k 0 _ (.int .i64 (lv[k]'hlt').1) (getN hlt') rfl
  have f1 := flat_get (enc := encL) (s := 2) (fun _ => rfl) lv k 1 _ (lv[k]'hlt').2 (getN hlt') rfl
  refine ⟨Ap, cp, p2, p3, p4, p5, by rw [← p1]; exact g2, ?_, ?_⟩
  · have := e5 _ _ f0; rwa [g1] at this
  · have := e5 _ _ f1; rwa [p1] at this
theorem listsP_g {b : Nat} {A : Option Addr} {c n : Nat} {x : Int} (hn : n ≤ 1152921504606846976) (hb4 : Rd w0 L ⟨b, 0 + 4, none⟩ (.slice A n c)) : Gives Try.prog w0 L 109 [.int .i64 x, .pointer (some ⟨b, 0, none⟩)] (fun v' L' => v' = .bool (decide (¬ (-1 ≤ x ∧ x ≤ (n : Int) - 1))) ∧ L' = L) := by
  refine enterP Try.func109 rfl Try.ntmps109 Try.results109 (Nat.le_of_ble_eq_true rfl) fun w hM => ?_
  have hb4' := hb4.at hM
  clear hM hb4
  refine c_seq ?_
  refine c_region ?_
  refine w_asg rfl (by (conv => lhs; whnf); first | done | rfl) ?_
  refine w_nil ?_
  refine tq_n ?_
  refine c_seq ?_
  refine c_region ?_
  refine w_mov rfl (by (conv => lhs; whnf); first | done | rfl) ?_
  refine x_fa rfl (by (conv => lhs; whnf); first | done | rfl) ?_
  refine x_ld rfl (by (conv => lhs; whnf); first | done | rfl) (hb4') ?_
  refine x_len rfl (by (conv => lhs; whnf); first | done | rfl) ?_
  refine w_sub rfl (by (conv => lhs; whnf); first | done | rfl) (by (conv => lhs; whnf); first | done | rfl) (by omega) ?_
  refine x_callp (by decide) (inRange_g _ _ _) rfl rfl rfl ?_
  refine w_notd rfl (by (conv => lhs; whnf); first | done | rfl) ?_
  refine w_asg rfl (by (conv => lhs; whnf); first | done | rfl) ?_
  refine w_nil ?_
  refine tq_n ?_
  refine c_ret ?_
  exact rq_r (ra_t (by (conv => lhs; whnf); first | done | rfl) .nil) (List.nil_sublist _) (⟨rfl, rfl⟩)
def pgsB (t : Tb) (l : Lg) : Bool := l.pg.all fun p => decide (-1 ≤ p ∧ p ≤ t.G * t.P - 1)
theorem pgsB_iff {t : Tb} {l : Lg} : pgsB t l = true ↔ ∀ p ∈ l.pg, -1 ≤ p ∧ p ≤ t.G * t.P - 1 := by
  simp only [pgsB, List.all_eq_true, decide_eq_true_eq]
theorem pgs_any {t : Tb} {l : Lg} {n : Nat} (hn : (n : Int) = t.G * t.P) : (l.pg.any (fun x => decide (¬ (-1 ≤ x ∧ x ≤ (n : Int) - 1))) = true) = ¬ (pgsB t l = true) := by
  rw [pgsB_iff]
  rw [hn, List.any_eq_true]
  simp only [decide_eq_true_eq, eq_iff_iff]
  constructor
  · rintro ⟨x, hx, h⟩ hall; exact h (hall x hx)
  · intro h
    apply Classical.byContradiction
    intro hno
    exact h fun p hp => Classical.byContradiction fun hc => hno ⟨p, hp, hc⟩
theorem dec2 {p : Prop} [Decidable p] : decide p = decide (decide p = true) := by rw [Bool.eq_iff_iff]; simp only [decide_eq_true_eq]
/-- The cells of a table's variable. -/
abbrev cT (t : Tb) (Ad : Option Addr) (cd : Nat) (Ah : Option Addr) (ch : Nat) (Al : Option Addr) (cl : Nat) : List Value := [.int .i64 t.P, .int .i64 t.G, .int .i64 t.K, .slice Ad t.da.length cd, .slice Ah t.ha.length ch, .int .i64 t.sp, .int .i64 t.sl, .int .i64 t.su, .slice Al t.lo.length cl]
theorem gp_le {p g k : Int} (h : Sz p g k) : 4 ≤ g * p ∧ g * p ≤ 8192 := by
  have h1 : 1 * 4 ≤ g * p := Int.mul_le_mul (by omega) (by omega) (by omega) (by omega)
  have h2 : g * p ≤ 256 * 32 := Int.mul_le_mul (by omega) (by omega) (by omega) (by omega)
  omega
theorem newR_form {p g k : Int} {v : Value} {S : Own} (h : NewR p g k v S) : ∃ (vs : List Value) (e : Int), v = .tuple #[.agg vs.toArray, .int .i64 e] ∧ Nat.beq vs.length 9 = true ∧ vs.all Value.oneCell' = true ∧ (e = 0 ∨ e = 1) ∧ (e = 0 ↔ Sz p g k) ∧ (e = 0 → 4 ≤ g * p ∧ g * p ≤ 8192) := by
  by_cases hz : Sz p g k
  · obtain ⟨tv, rfl, ht⟩ := h.1 hz
    obtain ⟨vd, vh, vl, rfl, hd, hh, hl⟩ := (ht default S (List.Sublist.refl _)).ex
    obtain ⟨lv, hlv, _⟩ := hl.ex
    exact ⟨_, 0, rfl, rfl, (by have h1 := hd.one; have h2 := hh.one; have h3 := hlv.one; simp only [List.all_cons, List.all_nil, h1, h2, h3]; rfl), .inl rfl, ⟨fun _ => hz, fun _ => rfl⟩, fun _ => gp_le hz⟩
  · rw [h.2 hz]
    exact ⟨zT, 1, rfl, rfl, rfl, .inr rfl, ⟨fun h => by omega, fun h => absurd h hz⟩, fun h => by omega⟩
noncomputable instance (t : Tb) : Decidable (Lists t) := Classical.propDecidable _
theorem lists_g {v : Value} {t : Tb} (h : TabR w0 L v t) : Gives Try.prog w0 L 69 [v] (fun v' L' => v' = .bool (decide (Lists t)) ∧ L' = L) := by
  refine enterP Try.func69 rfl Try.ntmps69 Try.results69 (Nat.le_of_ble_eq_true rfl) fun w hM => ?_
  obtain ⟨vd, vh, vl, rfl, hd, hh, hlo⟩ := ((h).at hM).ex; obtain ⟨Ad, cd, rfl, hdc, hdl, hdA, hdR⟩ := id hd.ex; obtain ⟨Ah, ch, rfl, hhc, hhl, hhA, hhR⟩ := id hh.ex; obtain ⟨Al, cl, rfl, hlc, hll, hlA, hlR⟩ := LogR.opn hlo
  clear hM
  refine c_seq ?_
  refine c_region ?_
  refine x_boxa rfl (by (conv => lhs; whnf); first | done | rfl) ?_
  intro b1
  refine w_asg rfl (by (conv => lhs; whnf); first | done | rfl) ?_
  refine w_nil ?_
  refine tq_n ?_
  refine c_seq ?_
  refine c_seq ?_
  refine c_region ?_
  refine x_fa rfl (by (conv => lhs; whnf); first | done | rfl) ?_
  refine x_ldo rfl (by (conv => lhs; whnf); first | done | rfl) (by first | exact HasC.out | exact PutC.out | repeat (first | exact .here | apply Has.there | apply Put.there | apply Has.app | apply Put.app)) (by (conv => lhs; whnf); first | done | rfl) ?_
  refine x_fa rfl (by (conv => lhs; whnf); first | done | rfl) ?_
  refine x_ldo rfl (by (conv => lhs; whnf); first | done | rfl) (by first | exact HasC.out | exact PutC.out | repeat (first | exact .here | apply Has.there | apply Put.there | apply Has.app | apply Put.app)) (by (conv => lhs; whnf); first | done | rfl) ?_
  refine x_fa rfl (by (conv => lhs; whnf); first | done | rfl) ?_
  refine x_ldo rfl (by (conv => lhs; whnf); first | done | rfl) (by first | exact HasC.out | exact PutC.out | repeat (first | exact .here | apply Has.there | apply Put.there | apply Has.app | apply Put.app)) (by (conv => lhs; whnf); first | done | rfl) ?_
  refine x_call (new_g) rfl rfl rfl ?_
  rintro _ _ ⟨S35, rfl, hN⟩
  obtain ⟨tvs, ev, rfl, htl, hto, hev, hez, hgp⟩ := newR_form hN
  refine w_mov rfl (by (conv => lhs; whnf); first | done | rfl) ?_
  refine w_ext rfl (by (conv => lhs; whnf); first | done | rfl) (by (conv => lhs; whnf); first | done | rfl) ?_
  refine w_ext rfl (by (conv => lhs; whnf); first | done | rfl) (by (conv => lhs; whnf); first | done | rfl) ?_
  refine x_al rfl ?_
  intro b3
  refine x_stw rfl (by (conv => lhs; whnf); first | done | rfl) (by (conv => lhs; whnf); first | done | rfl) (htl) (hto) (by first | exact HasC.out | exact PutC.out | repeat (first | exact .here | apply Has.there | apply Put.there | apply Has.app | apply Put.app)) (by exact htl) ?_
  refine w_asg rfl (by (conv => lhs; whnf); first | done | rfl) ?_
  refine w_nil ?_
  refine tq_n ?_
  refine c_seq ?_
  refine c_region_j [17, 18, 19, 20, 21, 22, 23, 24, 25, 26, 27, 28, 29, 30, 31, 32, 33, 34, 35, 36, 37, 38, 39, 40, 41, 42, 43, 44, 45] 45 (.bool (decide (¬ Head t))) ?_ (fun g2 => ?_)
  · all_goals (refine w_mov rfl (by (conv => lhs; whnf); first | done | rfl) ?_)
    all_goals (refine w_neq rfl (by (conv => lhs; whnf); first | done | rfl) (by (conv => lhs; whnf); first | done | rfl) ?_)
    all_goals (refine w_mov rfl (by (conv => lhs; whnf); first | done | rfl) ?_)
    all_goals (first | refine w_lit true rfl rfl rfl ?_ | refine w_lit false rfl rfl rfl ?_ | refine w_cases_od rfl rfl rfl (fun hg => ?_) (fun hg => ?_) | refine w_cases_o rfl rfl rfl (fun hg => ?_) (fun hg => ?_) | skip)
    all_goals (first | refine w_skip rfl ?_ | (refine x_fa rfl (by (conv => lhs; whnf); first | done | rfl) ?_))
    all_goals (first | refine w_skip rfl ?_ | (refine x_ldo rfl (by (conv => lhs; whnf); first | done | rfl) (by first | exact HasC.out | exact PutC.out | repeat (first | exact .here | apply Has.there | apply Put.there | apply Has.app | apply Put.app)) (by (conv => lhs; whnf); first | done | rfl) ?_))
    all_goals (first | refine w_skip rfl ?_ | (refine x_len rfl (by (conv => lhs; whnf); first | done | rfl) ?_))
    all_goals (first | refine w_skip rfl ?_ | (refine x_fa rfl (by (conv => lhs; whnf); first | done | rfl) ?_))
    all_goals (first | refine w_skip rfl ?_ | (refine x_ldo rfl (by (conv => lhs; whnf); first | done | rfl) (by first | exact HasC.out | exact PutC.out | repeat (first | exact .here | apply Has.there | apply Put.there | apply Has.app | apply Put.app)) (by (conv => lhs; whnf); first | done | rfl) ?_))
    all_goals (first | refine w_skip rfl ?_ | (refine w_neq rfl (by (conv => lhs; whnf); first | done | rfl) (by (conv => lhs; whnf); first | done | rfl) ?_))
    all_goals (first | refine w_pick_t rfl rfl (by (conv => lhs; whnf); first | done | rfl) ?_ | refine w_pick_f rfl rfl (by (conv => lhs; whnf); first | done | rfl) ?_)
    all_goals (refine w_mov rfl (by (conv => lhs; whnf); first | done | rfl) ?_)
    all_goals (first | refine w_lit true rfl rfl rfl ?_ | refine w_lit false rfl rfl rfl ?_ | refine w_cases_od rfl rfl rfl (fun hg => ?_) (fun hg => ?_) | refine w_cases_o rfl rfl rfl (fun hg => ?_) (fun hg => ?_) | skip)
    all_goals (first | refine w_skip rfl ?_ | (refine x_fa rfl (by (conv => lhs; whnf); first | done | rfl) ?_))
    all_goals (first | refine w_skip rfl ?_ | (refine x_ldo rfl (by (conv => lhs; whnf); first | done | rfl) (by first | exact HasC.out | exact PutC.out | repeat (first | exact .here | apply Has.there | apply Put.there | apply Has.app | apply Put.app)) (by (conv => lhs; whnf); first | done | rfl) ?_))
    all_goals (first | refine w_skip rfl ?_ | (refine x_len rfl (by (conv => lhs; whnf); first | done | rfl) ?_))
    all_goals (first | refine w_skip rfl ?_ | (refine x_fa rfl (by (conv => lhs; whnf); first | done | rfl) ?_))
    all_goals (first | refine w_skip rfl ?_ | (refine x_ldo rfl (by (conv => lhs; whnf); first | done | rfl) (by first | exact HasC.out | exact PutC.out | repeat (first | exact .here | apply Has.there | apply Put.there | apply Has.app | apply Put.app)) (by (conv => lhs; whnf); first | done | rfl) ?_))
    all_goals (first | refine w_skip rfl ?_ | (refine x_fa rfl (by (conv => lhs; whnf); first | done | rfl) ?_))
    all_goals (first | refine w_skip rfl ?_ | (refine x_ldo rfl (by (conv => lhs; whnf); first | done | rfl) (by first | exact HasC.out | exact PutC.out | repeat (first | exact .here | apply Has.there | apply Put.there | apply Has.app | apply Put.app)) (by (conv => lhs; whnf); first | done | rfl) ?_))
    all_goals (first | refine w_skip rfl ?_ | (refine w_mul rfl (by (conv => lhs; whnf); first | done | rfl) (by (conv => lhs; whnf); first | done | rfl) (by omega) ?_))
    all_goals (first | refine w_skip rfl ?_ | (refine w_neq rfl (by (conv => lhs; whnf); first | done | rfl) (by (conv => lhs; whnf); first | done | rfl) ?_))
    all_goals (first | refine w_pick_t rfl rfl (by (conv => lhs; whnf); first | done | rfl) ?_ | refine w_pick_f rfl rfl (by (conv => lhs; whnf); first | done | rfl) ?_)
    all_goals (refine w_mov rfl (by (conv => lhs; whnf); first | done | rfl) ?_)
    all_goals (first | refine w_lit true rfl rfl rfl ?_ | refine w_lit false rfl rfl rfl ?_ | refine w_cases_od rfl rfl rfl (fun hg => ?_) (fun hg => ?_) | refine w_cases_o rfl rfl rfl (fun hg => ?_) (fun hg => ?_) | skip)
    all_goals (first | refine w_skip rfl ?_ | (refine x_fa rfl (by (conv => lhs; whnf); first | done | rfl) ?_))
    all_goals (first | refine w_skip rfl ?_ | (refine x_ldo rfl (by (conv => lhs; whnf); first | done | rfl) (by first | exact HasC.out | exact PutC.out | repeat (first | exact .here | apply Has.there | apply Put.there | apply Has.app | apply Put.app)) (by (conv => lhs; whnf); first | done | rfl) ?_))
    all_goals (first | refine w_skip rfl ?_ | (refine x_len rfl (by (conv => lhs; whnf); first | done | rfl) ?_))
    all_goals (first | refine w_skip rfl ?_ | (refine x_fa rfl (by (conv => lhs; whnf); first | done | rfl) ?_))
    all_goals (first | refine w_skip rfl ?_ | (refine x_ldo rfl (by (conv => lhs; whnf); first | done | rfl) (by first | exact HasC.out | exact PutC.out | repeat (first | exact .here | apply Has.there | apply Put.there | apply Has.app | apply Put.app)) (by (conv => lhs; whnf); first | done | rfl) ?_))
    all_goals (first | refine w_skip rfl ?_ | (refine w_gtr rfl (by (conv => lhs; whnf); first | done | rfl) (by (conv => lhs; whnf); first | done | rfl) ?_))
    all_goals (first | refine w_pick_t rfl rfl (by (conv => lhs; whnf); first | done | rfl) ?_ | refine w_pick_f rfl rfl (by (conv => lhs; whnf); first | done | rfl) ?_)
    all_goals (refine w_nil ?_)
    all_goals (refine jn (by first | exact (Ag.upd rfl (Ag.upd rfl (Ag.upd rfl (Ag.upd rfl (Ag.upd rfl (Ag.upd rfl (Ag.upd rfl (Ag.upd rfl (Ag.upd rfl (Ag.upd rfl (Ag.upd rfl (Ag.upd rfl (Ag.upd rfl (Ag.upd rfl (Ag.upd rfl (Ag.upd rfl (Ag.upd rfl (Ag.upd rfl (Ag.upd rfl (Ag.upd rfl (Ag.upd rfl (Ag.upd rfl (Ag.upd rfl (Ag.upd rfl (Ag.upd rfl (Ag.upd rfl (Ag.upd rfl (Ag.upd rfl (Ag.upd rfl Ag.refl))))))))))))))))))))))))))))) | exact (by first | ((repeat (first | with_reducible exact Ag.refl | with_reducible exact Ag.ov | (with_reducible refine Ag.upd ?_ ?_; exact rfl) | with_reducible refine Ag.putn ?_ | (with_reducible refine Ag.ovs ?_ ?_; exact rfl))); done) | (repeat (first | exact Ag.refl | exact Ag.ov | (refine Ag.upd ?_ ?_; exact rfl) | refine Ag.putn ?_ | (refine Ag.ovs ?_ ?_; exact rfl))))) (by (conv => lhs; whnf); first | done | rfl) ?_)
    all_goals (exact congrArg Value.bool (by first | rfl | (refine decide_eq_decide.2 ?_; omega) | (refine (decide_eq_true ?_).symm; omega) | (refine (decide_eq_false ?_).symm; omega) | simp_all))
  refine tq_n ?_
  refine c_cond_d (by (conv => lhs; whnf); first | done | rfl) (fun hc45 => ?_) (fun hc45 => ?_)
  · refine c_seq ?_
    refine c_region ?_
    refine w_asg rfl (by (conv => lhs; whnf); first | done | rfl) ?_
    refine w_nil ?_
    refine tq_n ?_
    refine c_ret ?_
    refine tq_r ?_
    exact rq_r (ra_t (by (conv => lhs; whnf); first | done | rfl) .nil) (List.nil_sublist _) (⟨congrArg Value.bool (decide_eq_false (fun h => hc45 h.1)).symm, rfl⟩)
  · have hH : Head t := Decidable.not_not.1 hc45
    refine c_skip ?_
    refine tq_n ?_
    refine c_seq ?_
    refine c_seq ?_
    refine c_region ?_
    refine x_fa rfl (by (conv => lhs; whnf); first | done | rfl) ?_
    refine x_ldo rfl (by (conv => lhs; whnf); first | done | rfl) (by first | exact HasC.out | exact PutC.out | repeat (first | exact .here | apply Has.there | apply Put.there | apply Has.app | apply Put.app)) (by (conv => lhs; whnf); first | done | rfl) ?_
    refine x_len rfl (by (conv => lhs; whnf); first | done | rfl) ?_
    refine w_mov rfl (by (conv => lhs; whnf); first | done | rfl) ?_
    refine w_nil ?_
    refine tq_n ?_
    refine c_block ?_
    refine c_loop_ov [50, 51, 52, 53, 6, 5, 54, 55, 56, 57, 58, 59, 60, 61, 62, 63, 64, 65, 66, 67, 68, 69, 70, 71, 72, 73, 74, 75, 2, 76, 77, 78, 79, 80, 81, 82, 83, 84, 85, 86, 49] (fun m s L => ∃ k : Nat, k ≤ t.lo.length ∧ (∀ i l, i < k → t.lo[i]? = some l → LogOk t i l) ∧ m = t.lo.length - k ∧ s = [(49, .int .i64 k)] ∧ L = [(b1, B 43 (cT t Ad cd Ah ch Al cl))]) (t.lo.length) [(49, .int .i64 (0 : Nat))] (by repeat (first | exact .nil | refine .cons rfl ?_)) (by first | exact SubL.out | repeat (first | exact List.Sublist.refl _ | exact List.nil_sublist _ | refine .cons_cons _ ?_ | refine .cons _ ?_ | refine List.Sublist.append (List.Sublist.refl _) ?_ | exact List.sublist_append_left _ _ | refine List.Sublist.trans ?_ (List.sublist_append_right _ _))) (⟨0, by omega, fun i l hi => by omega, by simp, rfl, rfl⟩) ?_
    rintro mI sI LI gL0 ⟨k, hk, hn, rfl, rfl, rfl⟩
    refine c_seq ?_
    refine c_region ?_
    refine w_lss rfl (by (conv => lhs; whnf); first | done | rfl) (by (conv => lhs; whnf); first | done | rfl) ?_
    refine w_nil ?_
    refine tq_n ?_
    refine c_seq ?_
    refine c_cond_d (by (conv => lhs; whnf); first | done | rfl) (fun hc50 => ?_) (fun hc50 => ?_)
    · have hlt : k < t.lo.length := by omega
      obtain ⟨Ap, cp, hpc, hpl, hpA, hpR, hpI, hph, hpv⟩ := hlR k _ (getN hlt)
      refine c_skip ?_
      refine tq_n ?_
      refine c_seq ?_
      refine c_block ?_
      refine c_seq ?_
      refine c_region ?_
      refine w_mov rfl (by (conv => lhs; whnf); first | done | rfl) ?_
      refine x_ixA rfl (by (conv => lhs; whnf); first | done | rfl) (by (conv => lhs; whnf); first | done | rfl) (hlA (ne_of_lt hlt)) (by omega) (by omega) ?_
      refine x_lda (vs := [.int .i64 (t.lo[k]'hlt).ph, .slice Ap (t.lo[k]'hlt).pg.length cp]) rfl (by (conv => lhs; whnf); first | done | rfl) (rfl) (rd2 hph hpv) ?_
      refine x_al rfl ?_
      intro b6
      refine w_asg rfl (by (conv => lhs; whnf); first | done | rfl) ?_
      refine x_stw rfl (by (conv => lhs; whnf); first | done | rfl) (by (conv => lhs; whnf); first | done | rfl) rfl rfl (by first | exact HasC.out | exact PutC.out | repeat (first | exact .here | apply Has.there | apply Put.there | apply Has.app | apply Put.app)) rfl ?_
      refine w_nil ?_
      refine tq_n ?_
      refine c_seq ?_
      refine c_seq ?_
      refine c_region_j [54, 55, 56, 57, 58, 59, 60, 61, 62, 63, 64, 65, 66, 67, 68, 69, 70, 71, 72, 73, 74, 75] 75 (.bool (decide (¬ (((t.lo[k]'hlt).pg.length : Int) ≤ t.P ∧ (k + 1 < t.lo.length → ((t.lo[k]'hlt).pg.length : Int) = t.P))))) ?_ (fun g7 => ?_)
      · all_goals (refine x_fa rfl (by (conv => lhs; whnf); first | done | rfl) ?_)
        all_goals (refine x_ldo rfl (by (conv => lhs; whnf); first | done | rfl) (by first | exact HasC.out | exact PutC.out | repeat (first | exact .here | apply Has.there | apply Put.there | apply Has.app | apply Put.app)) (by (conv => lhs; whnf); first | done | rfl) ?_)
        all_goals (refine x_len rfl (by (conv => lhs; whnf); first | done | rfl) ?_)
        all_goals (refine x_fa rfl (by (conv => lhs; whnf); first | done | rfl) ?_)
        all_goals (refine x_ldo rfl (by (conv => lhs; whnf); first | done | rfl) (by first | exact HasC.out | exact PutC.out | repeat (first | exact .here | apply Has.there | apply Put.there | apply Has.app | apply Put.app)) (by (conv => lhs; whnf); first | done | rfl) ?_)
        all_goals (refine w_gtr rfl (by (conv => lhs; whnf); first | done | rfl) (by (conv => lhs; whnf); first | done | rfl) ?_)
        all_goals (refine w_mov rfl (by (conv => lhs; whnf); first | done | rfl) ?_)
        all_goals (first | refine w_lit true rfl rfl rfl ?_ | refine w_lit false rfl rfl rfl ?_ | refine w_cases_od rfl rfl rfl (fun hg => ?_) (fun hg => ?_) | refine w_cases_o rfl rfl rfl (fun hg => ?_) (fun hg => ?_) | skip)
        all_goals (first | refine w_skip rfl ?_ | (refine w_mov rfl (by (conv => lhs; whnf); first | done | rfl) ?_))
        all_goals (first | refine w_skip rfl ?_ | (refine x_fa rfl (by (conv => lhs; whnf); first | done | rfl) ?_))
        all_goals (first | refine w_skip rfl ?_ | (refine x_ldo rfl (by (conv => lhs; whnf); first | done | rfl) (by first | exact HasC.out | exact PutC.out | repeat (first | exact .here | apply Has.there | apply Put.there | apply Has.app | apply Put.app)) (by (conv => lhs; whnf); first | done | rfl) ?_))
        all_goals (first | refine w_skip rfl ?_ | (refine x_len rfl (by (conv => lhs; whnf); first | done | rfl) ?_))
        all_goals (first | refine w_skip rfl ?_ | (refine w_sub rfl (by (conv => lhs; whnf); first | done | rfl) (by (conv => lhs; whnf); first | done | rfl) (by omega) ?_))
        all_goals (first | refine w_skip rfl ?_ | (refine w_lss rfl (by (conv => lhs; whnf); first | done | rfl) (by (conv => lhs; whnf); first | done | rfl) ?_))
        all_goals (first | refine w_skip rfl ?_ | (refine w_mov rfl (by (conv => lhs; whnf); first | done | rfl) ?_))
        all_goals (first | refine w_lit true rfl rfl rfl ?_ | refine w_lit false rfl rfl rfl ?_ | refine w_cases_od rfl rfl rfl (fun hg => ?_) (fun hg => ?_) | refine w_cases_o rfl rfl rfl (fun hg => ?_) (fun hg => ?_) | skip)
        all_goals (first | refine w_skip rfl ?_ | (refine x_fa rfl (by (conv => lhs; whnf); first | done | rfl) ?_))
        all_goals (first | refine w_skip rfl ?_ | (refine x_ldo rfl (by (conv => lhs; whnf); first | done | rfl) (by first | exact HasC.out | exact PutC.out | repeat (first | exact .here | apply Has.there | apply Put.there | apply Has.app | apply Put.app)) (by (conv => lhs; whnf); first | done | rfl) ?_))
        all_goals (first | refine w_skip rfl ?_ | (refine x_len rfl (by (conv => lhs; whnf); first | done | rfl) ?_))
        all_goals (first | refine w_skip rfl ?_ | (refine x_fa rfl (by (conv => lhs; whnf); first | done | rfl) ?_))
        all_goals (first | refine w_skip rfl ?_ | (refine x_ldo rfl (by (conv => lhs; whnf); first | done | rfl) (by first | exact HasC.out | exact PutC.out | repeat (first | exact .here | apply Has.there | apply Put.there | apply Has.app | apply Put.app)) (by (conv => lhs; whnf); first | done | rfl) ?_))
        all_goals (first | refine w_skip rfl ?_ | (refine w_lss rfl (by (conv => lhs; whnf); first | done | rfl) (by (conv => lhs; whnf); first | done | rfl) ?_))
        all_goals (first | refine w_skip rfl ?_ | (first | refine w_pick_t rfl rfl (by (conv => lhs; whnf); first | done | rfl) ?_ | refine w_pick_f rfl rfl (by (conv => lhs; whnf); first | done | rfl) ?_))
        all_goals (first | refine w_pick_t rfl rfl (by (conv => lhs; whnf); first | done | rfl) ?_ | refine w_pick_f rfl rfl (by (conv => lhs; whnf); first | done | rfl) ?_)
        all_goals (refine w_nil ?_)
        all_goals (refine jn (by first | exact (Ag.upd rfl (Ag.upd rfl (Ag.upd rfl (Ag.upd rfl (Ag.upd rfl (Ag.upd rfl (Ag.upd rfl (Ag.upd rfl (Ag.upd rfl (Ag.upd rfl (Ag.upd rfl (Ag.upd rfl (Ag.upd rfl (Ag.upd rfl (Ag.upd rfl (Ag.upd rfl (Ag.upd rfl (Ag.upd rfl (Ag.upd rfl (Ag.upd rfl (Ag.upd rfl (Ag.upd rfl Ag.refl)))))))))))))))))))))) | exact (by first | ((repeat (first | with_reducible exact Ag.refl | with_reducible exact Ag.ov | (with_reducible refine Ag.upd ?_ ?_; exact rfl) | with_reducible refine Ag.putn ?_ | (with_reducible refine Ag.ovs ?_ ?_; exact rfl))); done) | (repeat (first | exact Ag.refl | exact Ag.ov | (refine Ag.upd ?_ ?_; exact rfl) | refine Ag.putn ?_ | (refine Ag.ovs ?_ ?_; exact rfl))))) (by (conv => lhs; whnf); first | done | rfl) ?_)
        all_goals (exact congrArg Value.bool (by first | rfl | (refine decide_eq_decide.2 ?_; omega) | (refine (decide_eq_true ?_).symm; omega) | (refine (decide_eq_false ?_).symm; omega) | simp_all))
      refine tq_n ?_
      refine c_cond_d (by (conv => lhs; whnf); first | done | rfl) (fun hc75 => ?_) (fun hc75 => ?_)
      · refine c_seq ?_
        refine c_region ?_
        refine w_asg rfl (by (conv => lhs; whnf); first | done | rfl) ?_
        refine w_nil ?_
        refine tq_n ?_
        refine c_ret ?_
        refine tq_r ?_
        refine bq_r ?_
        refine tq_r ?_
        refine tq_r ?_
        refine bq_r ?_
        refine tq_r ?_
        exact rq_r (ra_t (by (conv => lhs; whnf); first | done | rfl) .nil) (List.nil_sublist _) (⟨congrArg Value.bool (decide_eq_false (fun h => hc75 (h.2.1 k _ (getN hlt)).1)).symm, rfl⟩)
      · refine c_skip ?_
        refine tq_n ?_
        refine c_seq ?_
        refine c_region_j [76, 77, 78, 79, 80, 81, 82, 83, 84, 85] 85 (.bool (decide (¬ ((0 ≤ (t.lo[k]'hlt).ph ∧ (t.lo[k]'hlt).ph ≤ 255) ∧ pgsB t (t.lo[k]'hlt) = true)))) ?_ (fun g9 => ?_)
        · all_goals (refine x_fa rfl (by (conv => lhs; whnf); first | done | rfl) ?_)
          all_goals (refine x_ldo rfl (by (conv => lhs; whnf); first | done | rfl) (by first | exact HasC.out | exact PutC.out | repeat (first | exact .here | apply Has.there | apply Put.there | apply Has.app | apply Put.app)) (by (conv => lhs; whnf); first | done | rfl) ?_)
          all_goals (refine x_callp (by decide) (inRange_g _ _ _) rfl rfl rfl ?_)
          all_goals (refine w_notd rfl (by (conv => lhs; whnf); first | done | rfl) ?_)
          all_goals (refine w_mov rfl (by (conv => lhs; whnf); first | done | rfl) ?_)
          all_goals (first | refine w_lit true rfl rfl rfl ?_ | refine w_lit false rfl rfl rfl ?_ | refine w_cases_od rfl rfl rfl (fun hg => ?_) (fun hg => ?_) | refine w_cases_o rfl rfl rfl (fun hg => ?_) (fun hg => ?_) | skip)
          all_goals (first | refine w_skip rfl ?_ | (refine x_fa rfl (by (conv => lhs; whnf); first | done | rfl) ?_))
          all_goals (first | refine w_skip rfl ?_ | (refine x_ldo rfl (by (conv => lhs; whnf); first | done | rfl) (by first | exact HasC.out | exact PutC.out | repeat (first | exact .here | apply Has.there | apply Put.there | apply Has.app | apply Put.app)) (by (conv => lhs; whnf); first | done | rfl) ?_))
          all_goals (first | refine w_skip rfl ?_ | (refine x_fun rfl .nil (.cons (by (conv => lhs; whnf); first | done | rfl) .nil) ?_))
          all_goals (first | refine w_skip rfl ?_ | (refine x_callp (by decide) (containsFunc_g (k := 109) (cap := #[.pointer (some ⟨b1, 0, none⟩)]) (φ := fun x => decide (¬ (-1 ≤ x ∧ x ≤ (t.ha.length : Int) - 1))) (hpI.sub (List.nil_sublist _)) (fun w' hM L' x => (listsP_g (A := Ah) (c := ch) (n := t.ha.length) hhl (((Rd.own (by first | exact HasC.out | exact PutC.out | repeat (first | exact .here | apply Has.there | apply Put.there | apply Has.app | apply Put.app)) rfl).at hM).sub (List.nil_sublist _))).mono (fun v L2 h => ⟨h.1.trans (congrArg Value.bool dec2), h.2⟩))) rfl rfl rfl ?_))
          all_goals (first | refine w_pick_t rfl rfl (by (conv => lhs; whnf); first | done | rfl) ?_ | refine w_pick_f rfl rfl (by (conv => lhs; whnf); first | done | rfl) ?_)
          all_goals (refine w_nil ?_)
          all_goals (refine jn (by first | exact (Ag.upd rfl (Ag.upd rfl (Ag.upd rfl (Ag.upd rfl (Ag.upd rfl (Ag.upd rfl (Ag.upd rfl (Ag.upd rfl (Ag.upd rfl (Ag.upd rfl Ag.refl)))))))))) | exact (by first | ((repeat (first | with_reducible exact Ag.refl | with_reducible exact Ag.ov | (with_reducible refine Ag.upd ?_ ?_; exact rfl) | with_reducible refine Ag.putn ?_ | (with_reducible refine Ag.ovs ?_ ?_; exact rfl))); done) | (repeat (first | exact Ag.refl | exact Ag.ov | (refine Ag.upd ?_ ?_; exact rfl) | refine Ag.putn ?_ | (refine Ag.ovs ?_ ?_; exact rfl))))) (by (conv => lhs; whnf); first | done | rfl) ?_)
          all_goals (exact congrArg Value.bool (by first | (refine (decide_eq_true ?_).symm; exact fun h => hg h.1) | (refine decide_eq_decide.2 ?_; rw [pgs_any (t := t) (l := t.lo[k]'hlt) hH.2.2.1]; exact ⟨fun h h2 => h h2.2, fun h h2 => h ⟨Decidable.not_not.1 hg, h2⟩⟩)))
        refine tq_n ?_
        refine c_cond_d (by (conv => lhs; whnf); first | done | rfl) (fun hc85 => ?_) (fun hc85 => ?_)
        · refine c_seq ?_
          refine c_region ?_
          refine w_asg rfl (by (conv => lhs; whnf); first | done | rfl) ?_
          refine w_nil ?_
          refine tq_n ?_
          refine c_ret ?_
          refine bq_r ?_
          refine tq_r ?_
          refine tq_r ?_
          refine bq_r ?_
          refine tq_r ?_
          exact rq_r (ra_t (by (conv => lhs; whnf); first | done | rfl) .nil) (List.nil_sublist _) (⟨congrArg Value.bool (decide_eq_false (fun h => hc85 ⟨(h.2.1 k _ (getN hlt)).2.1, pgsB_iff.2 (h.2.1 k _ (getN hlt)).2.2⟩)).symm, rfl⟩)
        · refine c_skip ?_
          refine bq_n ?_
          refine tq_n ?_
          refine c_region ?_
          refine w_add rfl (by (conv => lhs; whnf); first | done | rfl) (by (conv => lhs; whnf); first | done | rfl) (by omega) ?_
          refine w_mov rfl (by (conv => lhs; whnf); first | done | rfl) ?_
          refine w_nil ?_
          refine tq_n ?_
          have hnx : ∀ i l, i < k + 1 → t.lo[i]? = some l → LogOk t i l := (fun i l hi hl => (by by_cases hik : i = k; (subst hik; rw [getN hlt] at hl; cases hl; exact ⟨Decidable.not_not.1 hc75, (Decidable.not_not.1 hc85).1, pgsB_iff.1 (Decidable.not_not.1 hc85).2⟩); exact hn i l (by omega) hl))
          exact ⟨(by first | ((repeat (first | with_reducible exact Ag.refl | with_reducible exact Ag.ov | (with_reducible refine Ag.upd ?_ ?_; exact rfl) | with_reducible refine Ag.putn ?_ | (with_reducible refine Ag.ovs ?_ ?_; exact rfl))); done) | (repeat (first | exact Ag.refl | exact Ag.ov | (refine Ag.upd ?_ ?_; exact rfl) | refine Ag.putn ?_ | (refine Ag.ovs ?_ ?_; exact rfl)))), t.lo.length - (k + 1), [(49, .int .i64 ((k + 1 : Nat) : Int))], _, by omega, (by first | exact SubL.out | repeat (first | exact List.Sublist.refl _ | exact List.nil_sublist _ | refine .cons_cons _ ?_ | refine .cons _ ?_ | refine List.Sublist.append (List.Sublist.refl _) ?_ | exact List.sublist_append_left _ _ | refine List.Sublist.trans ?_ (List.sublist_append_right _ _))), (by repeat (first | exact .nil | refine .cons rfl ?_)), ⟨k + 1, by omega, hnx, rfl, rfl, rfl⟩⟩
    · have hall : ∀ i l, t.lo[i]? = some l → LogOk t i l := (fun i l hl => hn i l (by have := (List.getElem?_eq_some_iff.1 hl).1; omega) hl)
      refine c_exit ?_
      refine tq_e ?_
      refine tq_e ?_
      refine bq_e ?_
      refine tq_n ?_
      refine c_seq ?_
      refine c_seq ?_
      refine c_region ?_
      refine x_fa rfl (by (conv => lhs; whnf); first | done | rfl) ?_
      refine x_fa rfl (by (conv => lhs; whnf); first | done | rfl) ?_
      refine x_ldo rfl (by (conv => lhs; whnf); first | done | rfl) (by first | exact HasC.out | exact PutC.out | repeat (first | exact .here | apply Has.there | apply Put.there | apply Has.app | apply Put.app)) (by (conv => lhs; whnf); first | done | rfl) ?_
      refine w_eql rfl (by (conv => lhs; whnf); first | done | rfl) (by (conv => lhs; whnf); first | done | rfl) ?_
      refine w_nil ?_
      refine tq_n ?_
      refine c_cond_d (by (conv => lhs; whnf); first | done | rfl) (fun hc90 => ?_) (fun hc90 => ?_)
      · refine c_seq ?_
        refine c_region ?_
        refine x_fa rfl (by (conv => lhs; whnf); first | done | rfl) ?_
        refine x_ldao rfl (by (conv => lhs; whnf); first | done | rfl) (by first | exact HasC.out | exact PutC.out | repeat (first | exact .here | apply Has.there | apply Put.there | apply Has.app | apply Put.app)) rfl ?_
        refine x_bld rfl (.cons (by (conv => lhs; whnf); first | done | rfl) .nil) rfl ?_
        refine x_eqs ([t.sp, t.sl, t.su]) ([-1, 0, 0]) rfl (by (conv => lhs; whnf); first | done | rfl) (by (conv => lhs; whnf); first | done | rfl) rfl rfl ?_
        refine w_asg rfl (by (conv => lhs; whnf); first | done | rfl) ?_
        refine w_nil ?_
        refine tq_n ?_
        refine c_ret ?_
        refine tq_r ?_
        exact rq_r (ra_t (by (conv => lhs; whnf); first | done | rfl) .nil) (List.nil_sublist _) (⟨congrArg Value.bool (decide_eq_decide.2 ⟨fun h => ⟨hH, hall, .inl (by simpa using h)⟩, fun h => (by rcases h.2.2 with h | h; simpa using h; omega)⟩), rfl⟩)
      · refine c_skip ?_
        refine tq_n ?_
        refine c_seq ?_
        refine c_region_j [95, 96, 97, 98, 99, 100, 101, 102, 103, 104, 105, 106, 107, 108, 109, 110, 111, 112, 113, 114, 115, 2] 2 (.bool (decide ((0 ≤ t.sp ∧ t.sp ≤ 255) ∧ (0 ≤ t.sl ∧ t.sl ≤ t.G - 1) ∧ 0 ≤ t.su ∧ t.su ≤ t.P))) ?_ (fun g14 => ?_)
        · all_goals (refine x_fa rfl (by (conv => lhs; whnf); first | done | rfl) ?_)
          all_goals (refine x_fa rfl (by (conv => lhs; whnf); first | done | rfl) ?_)
          all_goals (refine x_ldo rfl (by (conv => lhs; whnf); first | done | rfl) (by first | exact HasC.out | exact PutC.out | repeat (first | exact .here | apply Has.there | apply Put.there | apply Has.app | apply Put.app)) (by (conv => lhs; whnf); first | done | rfl) ?_)
          all_goals (refine x_callp (by decide) (inRange_g _ _ _) rfl rfl rfl ?_)
          all_goals (refine w_mov rfl (by (conv => lhs; whnf); first | done | rfl) ?_)
          all_goals (first | refine w_lit true rfl rfl rfl ?_ | refine w_lit false rfl rfl rfl ?_ | refine w_cases_od rfl rfl rfl (fun hg => ?_) (fun hg => ?_) | refine w_cases_o rfl rfl rfl (fun hg => ?_) (fun hg => ?_) | skip)
          all_goals (first | refine w_skip rfl ?_ | (refine x_fa rfl (by (conv => lhs; whnf); first | done | rfl) ?_))
          all_goals (first | refine w_skip rfl ?_ | (refine x_fa rfl (by (conv => lhs; whnf); first | done | rfl) ?_))
          all_goals (first | refine w_skip rfl ?_ | (refine x_ldo rfl (by (conv => lhs; whnf); first | done | rfl) (by first | exact HasC.out | exact PutC.out | repeat (first | exact .here | apply Has.there | apply Put.there | apply Has.app | apply Put.app)) (by (conv => lhs; whnf); first | done | rfl) ?_))
          all_goals (first | refine w_skip rfl ?_ | (refine x_fa rfl (by (conv => lhs; whnf); first | done | rfl) ?_))
          all_goals (first | refine w_skip rfl ?_ | (refine x_ldo rfl (by (conv => lhs; whnf); first | done | rfl) (by first | exact HasC.out | exact PutC.out | repeat (first | exact .here | apply Has.there | apply Put.there | apply Has.app | apply Put.app)) (by (conv => lhs; whnf); first | done | rfl) ?_))
          all_goals (first | refine w_skip rfl ?_ | (refine w_sub rfl (by (conv => lhs; whnf); first | done | rfl) (by (conv => lhs; whnf); first | done | rfl) (by omega) ?_))
          all_goals (first | refine w_skip rfl ?_ | (refine x_callp (by decide) (inRange_g _ _ _) rfl rfl rfl ?_))
          all_goals (first | refine w_pick_t rfl rfl (by (conv => lhs; whnf); first | done | rfl) ?_ | refine w_pick_f rfl rfl (by (conv => lhs; whnf); first | done | rfl) ?_)
          all_goals (refine w_mov rfl (by (conv => lhs; whnf); first | done | rfl) ?_)
          all_goals (first | refine w_lit true rfl rfl rfl ?_ | refine w_lit false rfl rfl rfl ?_ | refine w_cases_od rfl rfl rfl (fun hg => ?_) (fun hg => ?_) | refine w_cases_o rfl rfl rfl (fun hg => ?_) (fun hg => ?_) | skip)
          all_goals (first | refine w_skip rfl ?_ | (refine x_fa rfl (by (conv => lhs; whnf); first | done | rfl) ?_))
          all_goals (first | refine w_skip rfl ?_ | (refine x_fa rfl (by (conv => lhs; whnf); first | done | rfl) ?_))
          all_goals (first | refine w_skip rfl ?_ | (refine x_ldo rfl (by (conv => lhs; whnf); first | done | rfl) (by first | exact HasC.out | exact PutC.out | repeat (first | exact .here | apply Has.there | apply Put.there | apply Has.app | apply Put.app)) (by (conv => lhs; whnf); first | done | rfl) ?_))
          all_goals (first | refine w_skip rfl ?_ | (refine x_fa rfl (by (conv => lhs; whnf); first | done | rfl) ?_))
          all_goals (first | refine w_skip rfl ?_ | (refine x_ldo rfl (by (conv => lhs; whnf); first | done | rfl) (by first | exact HasC.out | exact PutC.out | repeat (first | exact .here | apply Has.there | apply Put.there | apply Has.app | apply Put.app)) (by (conv => lhs; whnf); first | done | rfl) ?_))
          all_goals (first | refine w_skip rfl ?_ | (refine x_callp (by decide) (inRange_g _ _ _) rfl rfl rfl ?_))
          all_goals (first | refine w_pick_t rfl rfl (by (conv => lhs; whnf); first | done | rfl) ?_ | refine w_pick_f rfl rfl (by (conv => lhs; whnf); first | done | rfl) ?_)
          all_goals (refine w_asg rfl (by (conv => lhs; whnf); first | done | rfl) ?_)
          all_goals (refine w_nil ?_)
          all_goals (refine jn (by first | exact (Ag.upd rfl (Ag.upd rfl (Ag.upd rfl (Ag.upd rfl (Ag.upd rfl (Ag.upd rfl (Ag.upd rfl (Ag.upd rfl (Ag.upd rfl (Ag.upd rfl (Ag.upd rfl (Ag.upd rfl (Ag.upd rfl (Ag.upd rfl (Ag.upd rfl (Ag.upd rfl (Ag.upd rfl (Ag.upd rfl (Ag.upd rfl (Ag.upd rfl (Ag.upd rfl (Ag.upd rfl Ag.refl)))))))))))))))))))))) | exact (by first | ((repeat (first | with_reducible exact Ag.refl | with_reducible exact Ag.ov | (with_reducible refine Ag.upd ?_ ?_; exact rfl) | with_reducible refine Ag.putn ?_ | (with_reducible refine Ag.ovs ?_ ?_; exact rfl))); done) | (repeat (first | exact Ag.refl | exact Ag.ov | (refine Ag.upd ?_ ?_; exact rfl) | refine Ag.putn ?_ | (refine Ag.ovs ?_ ?_; exact rfl))))) (by (conv => lhs; whnf); first | done | rfl) ?_)
          all_goals (exact congrArg Value.bool (by first | rfl | (refine decide_eq_decide.2 ?_; omega) | (refine (decide_eq_true ?_).symm; omega) | (refine (decide_eq_false ?_).symm; omega) | simp_all))
        refine tq_n ?_
        refine c_ret ?_
        exact rq_r (ra_t (by (conv => lhs; whnf); first | done | rfl) .nil) (List.nil_sublist _) (⟨congrArg Value.bool (decide_eq_decide.2 ⟨fun h => ⟨hH, hall, .inr h⟩, fun h => (by rcases h.2.2 with h | h; omega; exact h)⟩), rfl⟩)
end
end Go.Proofs.Ytnmhhelcaibdoaa.Pl
