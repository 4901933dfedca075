/- Tables as data, how they lie in memory; the new table, by both texts. -/
import Derived.Test.YtnmhhelcaibdoaaPa
namespace Go.Proofs.Ytnmhhelcaibdoaa.Pl
open Go Go.RowKit Sl
set_option linter.unusedVariables false
set_option linter.unusedSimpArgs false
structure Lg where
  ph : Int
  pg : List Int
structure Tb where
  P : Int
  G : Int
  K : Int
  da : List Int
  ha : List Bool
  sp : Int
  sl : Int
  su : Int
  lo : List Lg
/-- Sizes that may be. -/
abbrev Sz (p g k : Int) : Prop := (4 ≤ p ∧ p ≤ 32) ∧ (1 ≤ g ∧ g ≤ 256) ∧ 1 ≤ k ∧ k ≤ 8
def newT (p g k : Int) : Tb := ⟨p, g, k, List.replicate g.toNat (-1), List.replicate (g * p).toNat false, -1, 0, 0, []⟩
def encL (x : Int × Value) : List Value := [.int .i64 x.1, x.2]
/-- Logs that are read. -/
structure LogR (w0 : World) (L : Own) (v : Value) (lo : List Lg) : Prop where
  ex : ∃ lv : List (Int × Value), SlR w0 L encL v lv ∧ lv.length = lo.length ∧ ∀ (i : Nat) (x : Int × Value) (l : Lg), lv[i]? = some x → lo[i]? = some l → x.1 = l.ph ∧ IL w0 L x.2 l.pg
/-- A table that is read. -/
structure TabR (w0 : World) (L : Own) (v : Value) (t : Tb) : Prop where
  ex : ∃ vd vh vl, v = .agg #[.int .i64 t.P, .int .i64 t.G, .int .i64 t.K, vd, vh, .int .i64 t.sp, .int .i64 t.sl, .int .i64 t.su, vl] ∧ IL w0 L vd t.da ∧ BL w0 L vh t.ha ∧ LogR w0 L vl t.lo
section
variable {w0 w : World} {L L' : Own}
theorem LogR.at {v : Value} {lo : List Lg} (h : LogR w0 L v lo) (hM : Mem w0 w L) : LogR w [] v lo := by
  obtain ⟨lv, h1, h2, h3⟩ := h.ex
  exact ⟨lv, h1.at hM, h2, fun i x l hx hl => ⟨(h3 i x l hx hl).1, (h3 i x l hx hl).2.at hM⟩⟩
theorem LogR.sub {v : Value} {lo : List Lg} (h : LogR w0 L v lo) (hs : L.Sublist L') : LogR w0 L' v lo := by
  obtain ⟨lv, h1, h2, h3⟩ := h.ex
  exact ⟨lv, h1.sub hs, h2, fun i x l hx hl => ⟨(h3 i x l hx hl).1, (h3 i x l hx hl).2.sub hs⟩⟩
theorem LogR.perm {v : Value} {lo : List Lg} (h : LogR w0 L v lo) (hs : L'.Perm L) : LogR w0 L' v lo := by
  obtain ⟨lv, h1, h2, h3⟩ := h.ex
  exact ⟨lv, h1.perm hs, h2, fun i x l hx hl => ⟨(h3 i x l hx hl).1, (h3 i x l hx hl).2.perm hs⟩⟩
theorem TabR.at {v : Value} {t : Tb} (h : TabR w0 L v t) (hM : Mem w0 w L) : TabR w [] v t := by
  obtain ⟨vd, vh, vl, h1, h2, h3, h4⟩ := h.ex
  exact ⟨vd, vh, vl, h1, h2.at hM, h3.at hM, h4.at hM⟩
theorem TabR.sub {v : Value} {t : Tb} (h : TabR w0 L v t) (hs : L.Sublist L') : TabR w0 L' v t := by
  obtain ⟨vd, vh, vl, h1, h2, h3, h4⟩ := h.ex
  exact ⟨vd, vh, vl, h1, h2.sub hs, h3.sub hs, h4.sub hs⟩
theorem TabR.perm {v : Value} {t : Tb} (h : TabR w0 L v t) (hs : L'.Perm L) : TabR w0 L' v t := by
  obtain ⟨vd, vh, vl, h1, h2, h3, h4⟩ := h.ex
  exact ⟨vd, vh, vl, h1, h2.perm hs, h3.perm hs, h4.perm hs⟩
end
section
variable {w0 : World} {L : Own}
theorem mul64_g {a b : Int} (ha : 0 ≤ a) (ha' : a < 4294967296) (hb : 0 ≤ b) (hb' : b < 4294967296) (hab : a * b < 4294967296) : Gives Try.prog w0 L 137 [.int .u64 a, .int .u64 b] (fun v' L' => v' = .tuple #[.int .u64 0, .int .u64 (a * b)] ∧ L' = L) := by
  refine enterP Try.func137 rfl Try.ntmps137 Try.results137 (Nat.le_of_ble_eq_true rfl) fun w hM => ?_
  clear hM
  have h0 : 0 ≤ a * b := Int.mul_nonneg ha hb
  refine c_seq ?_
  refine c_region ?_
  refine w_asg rfl (by (conv => lhs; whnf); first | done | rfl) ?_
  refine w_asg rfl (by (conv => lhs; whnf); first | done | rfl) ?_
  refine w_nil ?_
  refine tq_n ?_
  refine c_seq ?_
  refine c_region ?_
  refine w_mov rfl (by (conv => lhs; whnf); first | done | rfl) ?_
  refine w_binv rfl (by (conv => lhs; whnf); first | done | rfl) (by (conv => lhs; whnf); first | done | rfl) (and_low ha ha') ?_
  refine w_asg rfl (by (conv => lhs; whnf); first | done | rfl) ?_
  refine w_nil ?_
  refine tq_n ?_
  refine c_seq ?_
  refine c_region ?_
  refine w_mov rfl (by (conv => lhs; whnf); first | done | rfl) ?_
  refine w_binv rfl (by (conv => lhs; whnf); first | done | rfl) (by (conv => lhs; whnf); first | done | rfl) (shr_low ha ha') ?_
  refine w_asg rfl (by (conv => lhs; whnf); first | done | rfl) ?_
  refine w_nil ?_
  refine tq_n ?_
  refine c_seq ?_
  refine c_region ?_
  refine w_mov rfl (by (conv => lhs; whnf); first | done | rfl) ?_
  refine w_binv rfl (by (conv => lhs; whnf); first | done | rfl) (by (conv => lhs; whnf); first | done | rfl) (and_low hb hb') ?_
  refine w_asg rfl (by (conv => lhs; whnf); first | done | rfl) ?_
  refine w_nil ?_
  refine tq_n ?_
  refine c_seq ?_
  refine c_region ?_
  refine w_mov rfl (by (conv => lhs; whnf); first | done | rfl) ?_
  refine w_binv rfl (by (conv => lhs; whnf); first | done | rfl) (by (conv => lhs; whnf); first | done | rfl) (shr_low hb hb') ?_
  refine w_asg rfl (by (conv => lhs; whnf); first | done | rfl) ?_
  refine w_nil ?_
  refine tq_n ?_
  refine c_seq ?_
  refine c_region ?_
  refine w_mov rfl (by (conv => lhs; whnf); first | done | rfl) ?_
  refine w_mov rfl (by (conv => lhs; whnf); first | done | rfl) ?_
  refine w_binv rfl (by (conv => lhs; whnf); first | done | rfl) (by (conv => lhs; whnf); first | done | rfl) (mul_u64 h0 (by omega)) ?_
  refine w_asg rfl (by (conv => lhs; whnf); first | done | rfl) ?_
  refine w_nil ?_
  refine tq_n ?_
  refine c_seq ?_
  refine c_region ?_
  refine w_mov rfl (by (conv => lhs; whnf); first | done | rfl) ?_
  refine w_mov rfl (by (conv => lhs; whnf); first | done | rfl) ?_
  refine w_binv rfl (by (conv => lhs; whnf); first | done | rfl) (by (conv => lhs; whnf); first | done | rfl) ((mul_u64 (by omega) (by omega)).trans (by rw [Int.zero_mul])) ?_
  refine w_mov rfl (by (conv => lhs; whnf); first | done | rfl) ?_
  refine w_binv rfl (by (conv => lhs; whnf); first | done | rfl) (by (conv => lhs; whnf); first | done | rfl) (shr_low h0 hab) ?_
  refine w_binv rfl (by (conv => lhs; whnf); first | done | rfl) (by (conv => lhs; whnf); first | done | rfl) (add_u64 (by omega) (by omega)) ?_
  refine w_asg rfl (by (conv => lhs; whnf); first | done | rfl) ?_
  refine w_nil ?_
  refine tq_n ?_
  refine c_seq ?_
  refine c_region ?_
  refine w_mov rfl (by (conv => lhs; whnf); first | done | rfl) ?_
  refine w_binv rfl (by (conv => lhs; whnf); first | done | rfl) (by (conv => lhs; whnf); first | done | rfl) (and_low (by omega) (by omega)) ?_
  refine w_asg rfl (by (conv => lhs; whnf); first | done | rfl) ?_
  refine w_nil ?_
  refine tq_n ?_
  refine c_seq ?_
  refine c_region ?_
  refine w_mov rfl (by (conv => lhs; whnf); first | done | rfl) ?_
  refine w_binv rfl (by (conv => lhs; whnf); first | done | rfl) (by (conv => lhs; whnf); first | done | rfl) (shr_low (by omega) (by omega)) ?_
  refine w_asg rfl (by (conv => lhs; whnf); first | done | rfl) ?_
  refine w_nil ?_
  refine tq_n ?_
  refine c_seq ?_
  refine c_region ?_
  refine w_mov rfl (by (conv => lhs; whnf); first | done | rfl) ?_
  refine w_mov rfl (by (conv => lhs; whnf); first | done | rfl) ?_
  refine w_mov rfl (by (conv => lhs; whnf); first | done | rfl) ?_
  refine w_binv rfl (by (conv => lhs; whnf); first | done | rfl) (by (conv => lhs; whnf); first | done | rfl) ((mul_u64 (by omega) (by omega)).trans (by rw [Int.mul_zero])) ?_
  refine w_binv rfl (by (conv => lhs; whnf); first | done | rfl) (by (conv => lhs; whnf); first | done | rfl) (add_u64 (by omega) (by omega)) ?_
  refine w_asg rfl (by (conv => lhs; whnf); first | done | rfl) ?_
  refine w_nil ?_
  refine tq_n ?_
  refine c_seq ?_
  refine c_region ?_
  refine w_mov rfl (by (conv => lhs; whnf); first | done | rfl) ?_
  refine w_mov rfl (by (conv => lhs; whnf); first | done | rfl) ?_
  refine w_binv rfl (by (conv => lhs; whnf); first | done | rfl) (by (conv => lhs; whnf); first | done | rfl) ((mul_u64 (by omega) (by omega)).trans (by rw [Int.mul_zero])) ?_
  refine w_mov rfl (by (conv => lhs; whnf); first | done | rfl) ?_
  refine w_binv rfl (by (conv => lhs; whnf); first | done | rfl) (by (conv => lhs; whnf); first | done | rfl) (add_u64 (by omega) (by omega)) ?_
  refine w_mov rfl (by (conv => lhs; whnf); first | done | rfl) ?_
  refine w_binv rfl (by (conv => lhs; whnf); first | done | rfl) (by (conv => lhs; whnf); first | done | rfl) (shr_low (by omega) (by omega)) ?_
  refine w_binv rfl (by (conv => lhs; whnf); first | done | rfl) (by (conv => lhs; whnf); first | done | rfl) (add_u64 (by omega) (by omega)) ?_
  refine w_asg rfl (by (conv => lhs; whnf); first | done | rfl) ?_
  refine w_nil ?_
  refine tq_n ?_
  refine c_seq ?_
  refine c_region ?_
  refine w_mov rfl (by (conv => lhs; whnf); first | done | rfl) ?_
  refine w_mov rfl (by (conv => lhs; whnf); first | done | rfl) ?_
  refine w_binv rfl (by (conv => lhs; whnf); first | done | rfl) (by (conv => lhs; whnf); first | done | rfl) (mul_u64 h0 (by omega)) ?_
  refine w_asg rfl (by (conv => lhs; whnf); first | done | rfl) ?_
  refine w_nil ?_
  refine tq_n ?_
  refine c_ret ?_
  exact rq_r (ra_t (by (conv => lhs; whnf); first | done | rfl) (ra_t (by (conv => lhs; whnf); first | done | rfl) .nil)) (List.nil_sublist _) (⟨rfl, rfl⟩)
theorem mul_g {a b c : Int} (hc : a * b = c) (ha : 0 ≤ a) (ha' : a < 4294967296) (hb : 0 ≤ b) (hb' : b < 4294967296) (hab : a * b < 4294967296) : Gives Try.prog w0 L 117 [.int .u64 a, .int .u64 b] (fun v' L' => v' = .tuple #[.int .u64 0, .int .u64 c] ∧ L' = L) := by
  subst hc
  refine enterP Try.func117 rfl Try.ntmps117 Try.results117 (Nat.le_of_ble_eq_true rfl) fun w hM => ?_
  clear hM
  refine c_seq ?_
  refine c_region ?_
  refine w_asg rfl (by (conv => lhs; whnf); first | done | rfl) ?_
  refine w_asg rfl (by (conv => lhs; whnf); first | done | rfl) ?_
  refine w_nil ?_
  refine tq_n ?_
  refine c_seq ?_
  refine c_cond_f rfl ?_
  refine c_skip ?_
  refine tq_n ?_
  refine c_seq ?_
  refine c_region ?_
  refine w_mov rfl (by (conv => lhs; whnf); first | done | rfl) ?_
  refine w_mov rfl (by (conv => lhs; whnf); first | done | rfl) ?_
  refine x_callp (by decide) (mul64_g ha ha' hb hb' hab) rfl rfl rfl ?_
  refine w_mov rfl (by (conv => lhs; whnf); first | done | rfl) ?_
  refine w_ext rfl (by (conv => lhs; whnf); first | done | rfl) (by (conv => lhs; whnf); first | done | rfl) ?_
  refine w_ext rfl (by (conv => lhs; whnf); first | done | rfl) (by (conv => lhs; whnf); first | done | rfl) ?_
  refine w_asg rfl (by (conv => lhs; whnf); first | done | rfl) ?_
  refine w_asg rfl (by (conv => lhs; whnf); first | done | rfl) ?_
  refine w_nil ?_
  refine tq_n ?_
  refine c_seq ?_
  refine c_region ?_
  refine w_mov rfl (by (conv => lhs; whnf); first | done | rfl) ?_
  refine w_mov rfl (by (conv => lhs; whnf); first | done | rfl) ?_
  refine w_asg rfl (by (conv => lhs; whnf); first | done | rfl) ?_
  refine w_asg rfl (by (conv => lhs; whnf); first | done | rfl) ?_
  refine w_nil ?_
  refine tq_n ?_
  refine c_ret ?_
  exact rq_r (ra_t (by (conv => lhs; whnf); first | done | rfl) (ra_t (by (conv => lhs; whnf); first | done | rfl) .nil)) (List.nil_sublist _) (⟨rfl, rfl⟩)
theorem rep_step {a z : Value} {k n m o : Nat} (ho : o = k) (hk : k ≤ n) (hm : m = min k (n - k)) : setAll (List.replicate k a ++ List.replicate (n - k) z) o ((List.replicate k a).take (m * 1)) = List.replicate (k + m) a ++ List.replicate (n - (k + m)) z := by
  rw [ho]
  have h := setAll_mid ((List.replicate k a).take (m * 1)) (List.replicate k a) (List.replicate (n - k) z) (by simp; omega)
  rw [List.length_replicate] at h
  rw [h]
  simp only [Nat.mul_one, List.take_replicate, List.length_replicate, List.drop_replicate, List.replicate_append_replicate]
  rw [show min m k = m by omega, show n - k - m = n - (k + m) by omega]
theorem rep_step0 {a : Int} {N : Nat} (h : 1 ≤ N) : setAll (List.replicate (N : Int).toNat (.int .i64 0)) 0 (([a].flatMap encI).take (min 1 (N : Int).toNat * 1)) = List.replicate (min 1 N) (.int .i64 a) ++ List.replicate (N - min 1 N) (.int .i64 0) := by
  rw [show min 1 N = 1 by omega]
  obtain ⟨M, rfl⟩ : ∃ M, N = M + 1 := ⟨N - 1, by omega⟩
  have : ((M + 1 : Nat) : Int).toNat = M + 1 := by omega
  rw [this, show min 1 (M + 1) = 1 by omega]
  simp [encI, List.replicate_succ, setAll]
theorem xsr {w0 : World} {L : Own} {b n : Nat} {cs : List Value} {a : Int} {N c : Nat} (hcs : cs = List.replicate n (.int .i64 a) ++ List.replicate (N - n) (.int .i64 0)) (hb : Has L b (B 3 cs)) : XS w0 L (.slice (some ⟨b, 0, none⟩) n c) n (List.replicate n (.int .i64 a)) :=
  ⟨_, _, rfl, fun h => (by cases h), fun ad e i u hu => by
    cases e; rw [addr_add, Nat.zero_add]
    refine Rd.own hb ?_
    rw [hcs, List.getElem?_append_left (List.getElem?_eq_some_iff.1 hu).1]; exact hu⟩
theorem rd_lit {w0 : World} {L : Own} {b i T : Nat} {xs : List Int} {c : Value} {cs : List Value} (hc : (xs.map (Value.int .i64))[i]? = some c) (hb : Has L b (B T cs)) (he : cs = xs.map (Value.int .i64) := by rfl) : Rd w0 L ⟨b, 0 + i, none⟩ c := by
  subst he; rw [Nat.zero_add]; exact Rd.own hb hc
theorem repeat_g {v : Value} {a n : Int} (h : IL w0 L v [a]) (hn : 1 ≤ n) (hn' : n ≤ 65536) : Gives Try.prog w0 L 74 [v, .int .i64 n] (fun v' L' => ∃ S, L' = S ++ L ∧ OSl 3 1 v' (List.replicate n.toNat (.int .i64 a)) n.toNat S) := by
  refine (enterB (R := fun v' S => OSl 3 1 v' (List.replicate n.toNat (.int .i64 a)) n.toNat S) Try.func74 rfl Try.ntmps74 Try.results74 (Nat.le_of_ble_eq_true rfl) fun w hM => ?_).mono fun v' L' h => h
  replace h := h.at hM
  obtain ⟨A, cap, rfl, hcap, hlen, hA, hR⟩ := id h.ex
  clear hM
  obtain ⟨N, rfl⟩ : ∃ N : Nat, n = N := ⟨n.toNat, by omega⟩
  have hb0 : (A : Option Addr) = some ⟨bk A, of_ A, none⟩ := hA (by simp)
  refine c_seq ?_
  refine c_region ?_
  refine w_asg rfl (by (conv => lhs; whnf); first | done | rfl) ?_
  refine w_nil ?_
  refine tq_n ?_
  refine c_seq ?_
  refine c_seq ?_
  refine c_region ?_
  refine w_mov rfl (by (conv => lhs; whnf); first | done | rfl) ?_
  refine w_lss rfl (by (conv => lhs; whnf); first | done | rfl) (by (conv => lhs; whnf); first | done | rfl) ?_
  refine w_nil ?_
  refine tq_n ?_
  refine c_cond_d (by (conv => lhs; whnf); first | done | rfl) (fun hc10 => ?_) (fun hc10 => ?_)
  · exact absurd hc10 (by omega)
  · refine c_skip ?_
    refine tq_n ?_
    refine c_seq ?_
    refine c_region ?_
    refine w_mov rfl (by (conv => lhs; whnf); first | done | rfl) ?_
    refine x_len rfl (by (conv => lhs; whnf); first | done | rfl) ?_
    refine x_cv Try.underlying3 Try.underlying155 rfl (by (conv => lhs; whnf); first | done | rfl) (wrap_u64 (by simp) (by simp)) ?_
    refine w_mov rfl (by (conv => lhs; whnf); first | done | rfl) ?_
    refine x_cv Try.underlying3 Try.underlying155 rfl (by (conv => lhs; whnf); first | done | rfl) (wrap_u64 (by omega) (by omega)) ?_
    refine x_callp (by decide) (mul_g (a := 1) (b := N) (c := N) (by omega) (by omega) (by omega) (by omega) (by omega) (by omega)) rfl rfl rfl ?_
    refine w_mov rfl (by (conv => lhs; whnf); first | done | rfl) ?_
    refine w_ext rfl (by (conv => lhs; whnf); first | done | rfl) (by (conv => lhs; whnf); first | done | rfl) ?_
    refine w_ext rfl (by (conv => lhs; whnf); first | done | rfl) (by (conv => lhs; whnf); first | done | rfl) ?_
    refine w_asg rfl (by (conv => lhs; whnf); first | done | rfl) ?_
    refine w_asg rfl (by (conv => lhs; whnf); first | done | rfl) ?_
    refine w_nil ?_
    refine tq_n ?_
    refine c_seq ?_
    refine c_seq ?_
    refine c_region_j [21, 22, 23, 24, 25, 26] 26 (.bool (decide ((9223372036854775807 : Int) < (N : Int)))) ?_ (fun g4 => ?_)
    · all_goals (refine w_mov rfl (by (conv => lhs; whnf); first | done | rfl) ?_)
      all_goals (refine w_gtr rfl (by (conv => lhs; whnf); first | done | rfl) (by (conv => lhs; whnf); first | done | rfl) ?_)
      all_goals (refine w_mov rfl (by (conv => lhs; whnf); first | done | rfl) ?_)
      all_goals (first | refine w_lit true rfl rfl rfl ?_ | refine w_lit false rfl rfl rfl ?_ | refine w_cases_od rfl rfl rfl (fun hg => ?_) (fun hg => ?_) | refine w_cases_o rfl rfl rfl (fun hg => ?_) (fun hg => ?_) | skip)
      all_goals (first | refine w_skip rfl ?_ | (refine w_mov rfl (by (conv => lhs; whnf); first | done | rfl) ?_))
      all_goals (first | refine w_skip rfl ?_ | (refine w_gtr rfl (by (conv => lhs; whnf); first | done | rfl) (by (conv => lhs; whnf); first | done | rfl) ?_))
      all_goals (first | refine w_pick_t rfl rfl (by (conv => lhs; whnf); first | done | rfl) ?_ | refine w_pick_f rfl rfl (by (conv => lhs; whnf); first | done | rfl) ?_)
      all_goals (refine w_nil ?_)
      all_goals (refine jn (by first | exact (Ag.upd rfl (Ag.upd rfl (Ag.upd rfl (Ag.upd rfl (Ag.upd rfl (Ag.upd rfl Ag.refl)))))) | exact (by first | ((repeat (first | with_reducible exact Ag.refl | with_reducible exact Ag.ov | (with_reducible refine Ag.upd ?_ ?_; exact rfl) | with_reducible refine Ag.putn ?_ | (with_reducible refine Ag.ovs ?_ ?_; exact rfl))); done) | (repeat (first | exact Ag.refl | exact Ag.ov | (refine Ag.upd ?_ ?_; exact rfl) | refine Ag.putn ?_ | (refine Ag.ovs ?_ ?_; exact rfl))))) (by (conv => lhs; whnf); first | done | rfl) ?_)
      all_goals (exact congrArg Value.bool (by first | rfl | (refine decide_eq_decide.2 ?_; omega) | (refine (decide_eq_true ?_).symm; omega) | (refine (decide_eq_false ?_).symm; omega) | simp_all))
    refine tq_n ?_
    refine c_cond_d (by (conv => lhs; whnf); first | done | rfl) (fun hc26 => ?_) (fun hc26 => ?_)
    · exact absurd hc26 (by omega)
    · refine c_skip ?_
      refine tq_n ?_
      refine c_seq ?_
      refine c_region ?_
      refine w_mov rfl (by (conv => lhs; whnf); first | done | rfl) ?_
      refine x_cv Try.underlying155 Try.underlying3 rfl (by (conv => lhs; whnf); first | done | rfl) (wrap_i64 (by omega) (by omega)) ?_
      refine x_mk rfl (by (conv => lhs; whnf); first | done | rfl) (by (conv => lhs; whnf); first | done | rfl) (by omega) (by omega) (by decide) ?_
      intro b30
      refine w_asg rfl (by (conv => lhs; whnf); first | done | rfl) ?_
      refine w_nil ?_
      refine tq_n ?_
      refine c_seq ?_
      refine c_region ?_
      refine w_mov rfl (by (conv => lhs; whnf); first | done | rfl) ?_
      refine w_mov rfl (by (conv => lhs; whnf); first | done | rfl) ?_
      refine x_cp rfl (by (conv => lhs; whnf); first | done | rfl) (by (conv => lhs; whnf); first | done | rfl) ((h.xs).sub (List.nil_sublist _)) (rfl) (rfl) (.here) (by simp) ?_
      refine w_asg rfl (by (conv => lhs; whnf); first | done | rfl) ?_
      refine w_nil ?_
      have hst := rep_step0 (a := a) (N := N) (by omega)
      refine tq_n ?_
      refine c_seq ?_
      refine c_block ?_
      refine c_loop_ov [34, 35, 36, 37, 38, 39, 40, 41, 42, 43, 44, 45, 46, 8] (fun m s L => ∃ (k : Nat) (cs : List Value), 1 ≤ k ∧ k ≤ N ∧ cs = List.replicate k (.int .i64 a) ++ List.replicate (N - k) (.int .i64 0) ∧ m = N - k ∧ s = [(8, .int .i64 k)] ∧ L = [(b30, B 3 cs)]) (N - min 1 N) [(8, .int .i64 ((min 1 N : Nat) : Int))] (by repeat (first | exact .nil | refine .cons rfl ?_)) (by first | exact SubL.out | repeat (first | exact List.Sublist.refl _ | exact List.nil_sublist _ | refine .cons_cons _ ?_ | refine .cons _ ?_ | refine List.Sublist.append (List.Sublist.refl _) ?_ | exact List.sublist_append_left _ _ | refine List.Sublist.trans ?_ (List.sublist_append_right _ _))) (⟨min 1 N, _, by omega, by omega, hst, by omega, rfl, rfl⟩) ?_
      rintro mI sI LI gL0 ⟨k, cs, hk1, hk2, hcs, rfl, rfl, rfl⟩
      refine c_seq ?_
      refine c_seq ?_
      refine c_region ?_
      refine w_mov rfl (by (conv => lhs; whnf); first | done | rfl) ?_
      refine w_mov rfl (by (conv => lhs; whnf); first | done | rfl) ?_
      refine x_len rfl (by (conv => lhs; whnf); first | done | rfl) ?_
      refine w_lss rfl (by (conv => lhs; whnf); first | done | rfl) (by (conv => lhs; whnf); first | done | rfl) ?_
      refine w_nil ?_
      refine tq_n ?_
      refine c_cond_d (by (conv => lhs; whnf); first | done | rfl) (fun hc37 => ?_) (fun hc37 => ?_)
      · have hlt : k < N := by omega
        have hcl : cs.length = N := by rw [hcs]; simp; omega
        refine c_skip ?_
        refine tq_n ?_
        refine c_block ?_
        refine d_begin_s ((List.Sublist.refl _)) [7] mixed ?_
        refine d_tk0 0 (np_blk (np_then (np_blk (np_then np_ret)))) rfl (by kernel_rfl) (by kernel_rfl) (by kernel_rfl) (by kernel_rfl) (.inl (by first | exact SubL.out | repeat (first | exact List.Sublist.refl _ | exact List.nil_sublist _ | refine .cons_cons _ ?_ | refine .cons _ ?_ | refine List.Sublist.append (List.Sublist.refl _) ?_ | exact List.sublist_append_left _ _ | refine List.Sublist.trans ?_ (List.sublist_append_right _ _)))) ?_
        refine w_mov rfl (by (conv => lhs; whnf); first | done | rfl) ?_
        refine w_nil ⟨rfl, rfl, ?_⟩
        refine d_tk0 1 (np_blk (np_then (np_blk (np_then np_ret)))) rfl (by kernel_rfl) (by kernel_rfl) (by kernel_rfl) (by kernel_rfl) (.inl (by first | exact SubL.out | repeat (first | exact List.Sublist.refl _ | exact List.nil_sublist _ | refine .cons_cons _ ?_ | refine .cons _ ?_ | refine List.Sublist.append (List.Sublist.refl _) ?_ | exact List.sublist_append_left _ _ | refine List.Sublist.trans ?_ (List.sublist_append_right _ _)))) ?_
        refine w_mov rfl (by (conv => lhs; whnf); first | done | rfl) ?_
        refine w_nil ⟨rfl, rfl, ?_⟩
        refine d_tk0 2 (np_blk (np_then (np_blk (np_then np_ret)))) rfl (by kernel_rfl) (by kernel_rfl) (by kernel_rfl) (by kernel_rfl) (.inl (by first | exact SubL.out | repeat (first | exact List.Sublist.refl _ | exact List.nil_sublist _ | refine .cons_cons _ ?_ | refine .cons _ ?_ | refine List.Sublist.append (List.Sublist.refl _) ?_ | exact List.sublist_append_left _ _ | refine List.Sublist.trans ?_ (List.sublist_append_right _ _)))) ?_
        refine w_mov rfl (by (conv => lhs; whnf); first | done | rfl) ?_
        refine w_nil ⟨rfl, rfl, ?_⟩
        refine d_tk0 3 (np_blk (np_then (np_blk (np_then np_ret)))) rfl (by kernel_rfl) (by kernel_rfl) (by kernel_rfl) (by kernel_rfl) (.inl (by first | exact SubL.out | repeat (first | exact List.Sublist.refl _ | exact List.nil_sublist _ | refine .cons_cons _ ?_ | refine .cons _ ?_ | refine List.Sublist.append (List.Sublist.refl _) ?_ | exact List.sublist_append_left _ _ | refine List.Sublist.trans ?_ (List.sublist_append_right _ _)))) ?_
        refine x_slo (l := k) (h := N) rfl (by (conv => lhs; whnf); first | done | rfl) (⟨rfl, rfl⟩) (by omega) (by exact Nat.le_refl N) (by exact hlt) ?_
        refine w_nil ⟨rfl, rfl, ?_⟩
        refine d_tk0 4 (np_blk (np_then (np_blk (np_then np_ret)))) rfl (by kernel_rfl) (by kernel_rfl) (by kernel_rfl) (by kernel_rfl) (.inl (by first | exact SubL.out | repeat (first | exact List.Sublist.refl _ | exact List.nil_sublist _ | refine .cons_cons _ ?_ | refine .cons _ ?_ | refine List.Sublist.append (List.Sublist.refl _) ?_ | exact List.sublist_append_left _ _ | refine List.Sublist.trans ?_ (List.sublist_append_right _ _)))) ?_
        refine w_mov rfl (by (conv => lhs; whnf); first | done | rfl) ?_
        refine w_nil ⟨rfl, rfl, ?_⟩
        refine d_tk0 5 (np_blk (np_then (np_blk (np_then np_ret)))) rfl (by kernel_rfl) (by kernel_rfl) (by kernel_rfl) (by kernel_rfl) (.inl (by first | exact SubL.out | repeat (first | exact List.Sublist.refl _ | exact List.nil_sublist _ | refine .cons_cons _ ?_ | refine .cons _ ?_ | refine List.Sublist.append (List.Sublist.refl _) ?_ | exact List.sublist_append_left _ _ | refine List.Sublist.trans ?_ (List.sublist_append_right _ _)))) ?_
        refine w_mov rfl (by (conv => lhs; whnf); first | done | rfl) ?_
        refine w_nil ⟨rfl, rfl, ?_⟩
        refine d_tk0 6 (np_blk (np_then (np_blk (np_then np_ret)))) rfl (by kernel_rfl) (by kernel_rfl) (by kernel_rfl) (by kernel_rfl) (.inl (by first | exact SubL.out | repeat (first | exact List.Sublist.refl _ | exact List.nil_sublist _ | refine .cons_cons _ ?_ | refine .cons _ ?_ | refine List.Sublist.append (List.Sublist.refl _) ?_ | exact List.sublist_append_left _ _ | refine List.Sublist.trans ?_ (List.sublist_append_right _ _)))) ?_
        refine x_sl0 (h := k) rfl (by (conv => lhs; whnf); first | done | rfl) (⟨rfl, rfl⟩) (by exact hk2) ?_
        refine w_nil ⟨rfl, rfl, ?_⟩
        refine d_one 7 rfl (by kernel_rfl) ?_
        refine x_cp rfl (by (conv => lhs; whnf); first | done | rfl) (by (conv => lhs; whnf); first | done | rfl) (xsr (n := k) hcs .here) (by simp) (by simp [Value.oneCell']) (.here) (by show 0 + k * 1 + (N - k) * 1 ≤ cs.length; omega) ?_
        refine w_nil ⟨rfl, (.inr (by kernel_rfl)), ?_⟩
        refine d_tk0 8 (np_blk (np_then (np_blk (np_then np_ret)))) rfl (by kernel_rfl) (by kernel_rfl) (by kernel_rfl) (by kernel_rfl) (.inr (by kernel_rfl)) ?_
        refine w_add rfl (by (conv => lhs; whnf); first | done | rfl) (by (conv => lhs; whnf); first | done | rfl) (by omega) ?_
        refine w_nil ⟨rfl, rfl, ?_⟩
        refine d_tk0 9 (np_blk (np_then (np_blk (np_then np_ret)))) rfl (by kernel_rfl) (by kernel_rfl) (by kernel_rfl) (by kernel_rfl) (.inr (by kernel_rfl)) ?_
        refine w_asg rfl (by (conv => lhs; whnf); first | done | rfl) ?_
        refine w_nil ⟨rfl, rfl, ?_⟩
        refine d_done (by kernel_rfl) ?_
        refine bq_n ?_
        refine tq_n ?_
        exact ⟨(by first | ((repeat (first | with_reducible exact Ag.refl | with_reducible exact Ag.ov | (with_reducible refine Ag.upd ?_ ?_; exact rfl) | with_reducible refine Ag.putn ?_ | (with_reducible refine Ag.ovs ?_ ?_; exact rfl))); done) | (repeat (first | exact Ag.refl | exact Ag.ov | (refine Ag.upd ?_ ?_; exact rfl) | refine Ag.putn ?_ | (refine Ag.ovs ?_ ?_; exact rfl)))), N - (k + min k (N - k)), [(8, .int .i64 ((k + min k (N - k) : Nat) : Int))], _, by omega, (by first | exact SubL.out | repeat (first | exact List.Sublist.refl _ | exact List.nil_sublist _ | refine .cons_cons _ ?_ | refine .cons _ ?_ | refine List.Sublist.append (List.Sublist.refl _) ?_ | exact List.sublist_append_left _ _ | refine List.Sublist.trans ?_ (List.sublist_append_right _ _))), (by repeat (first | exact .nil | refine .cons rfl ?_)), ⟨k + min k (N - k), _, by omega, by omega, by rw [hcs]; exact rep_step (by omega) hk2 rfl, rfl, rfl, rfl⟩⟩
      · refine c_exit ?_
        refine tq_e ?_
        refine tq_e ?_
        refine bq_e ?_
        refine tq_n ?_
        refine c_seq ?_
        refine c_region ?_
        refine w_mov rfl (by (conv => lhs; whnf); first | done | rfl) ?_
        refine w_asg rfl (by (conv => lhs; whnf); first | done | rfl) ?_
        refine w_nil ?_
        refine tq_n ?_
        refine c_ret ?_
        exact rq_r (ra_t (by (conv => lhs; whnf); first | done | rfl) .nil) (List.Sublist.refl _) (osl_full (by have hk : k = N := (by omega); subst hk; simpa using hcs) (by simp))
def zT : List Value := [.int .i64 0, .int .i64 0, .int .i64 0, .slice none 0 0, .slice none 0 0, .int .i64 0, .int .i64 0, .int .i64 0, .slice none 0 0]
/-- A table that lies in blocks of the call's own. -/
def TabO (S : Own) (v : Value) (t : Tb) : Prop := ∀ w0 L, S.Sublist L → TabR w0 L v t
theorem logR_nil {w0 : World} {L : Own} : LogR w0 L (.slice none 0 0) [] := ⟨[], ⟨none, 0, rfl, Nat.le_refl _, by simp, fun h => absurd rfl h, fun i c h => by simp at h⟩, rfl, fun i x l h => by simp at h⟩
/-- What both texts' New gives. -/
def NewR (p g k : Int) (v : Value) (S : Own) : Prop := (Sz p g k → ∃ tv, v = .tuple #[tv, .int .i64 0] ∧ TabO S tv (newT p g k)) ∧ (¬ Sz p g k → v = .tuple #[.agg zT.toArray, .int .i64 1])
theorem newR_mk {p g k : Int} {N : Nat} {S S1 S2 : Own} {vd vh : Value} (h1 : OSl 3 1 vd (List.replicate g.toNat (.int .i64 (-1))) g.toNat S1) (h2 : OSl 4 1 vh (List.replicate N (.bool false)) N S2) (hN : N = (g * p).toNat) (hs1 : S1.Sublist S) (hs2 : S2.Sublist S) (hz : Sz p g k) :
    NewR p g k (.tuple #[.agg #[.int .i64 p, .int .i64 g, .int .i64 k, vd, vh, .int .i64 (-1), .int .i64 0, .int .i64 0, .slice none 0 0], .int .i64 0]) S := by
  subst hN
  have hm : g * p ≤ 256 * 32 := Int.mul_le_mul (by omega) (by omega) (by omega) (by omega)
  refine ⟨fun _ => ⟨_, rfl, fun w0 L hs => ⟨vd, vh, .slice none 0 0, rfl, ?_, ?_, logR_nil⟩⟩, fun h => absurd hz h⟩
  · refine SlR.ofOSl (E := 3) (s := 1) (len := g.toNat) (S := S1) ?_ (by simp [newT]) (by omega) (hs1.trans hs)
    rw [flatI]; simpa [newT] using h1
  · refine SlR.ofOSl (E := 4) (s := 1) (len := (g * p).toNat) (S := S2) ?_ (by simp [newT]) (by omega) (hs2.trans hs)
    rw [flatB]; simpa [newT] using h2
theorem new_g {p g k : Int} : Gives Try.prog w0 L 35 [.int .i64 p, .int .i64 g, .int .i64 k] (fun v' L' => ∃ S, L' = S ++ L ∧ NewR p g k v' S) := by
  refine enterB (R := NewR p g k) Try.func35 rfl Try.ntmps35 Try.results35 (Nat.le_of_ble_eq_true rfl) fun w hM => ?_
  clear hM
  refine c_seq ?_
  refine c_region ?_
  refine x_al rfl ?_
  intro b6
  refine w_asg rfl (by (conv => lhs; whnf); first | done | rfl) ?_
  refine w_nil ?_
  refine tq_n ?_
  refine c_seq ?_
  refine c_seq ?_
  refine c_region_j [8, 9, 10, 11, 12, 13, 14, 15, 16, 17, 18, 19, 20, 21, 22, 23, 24, 25, 26, 27, 28, 29] 29 (.bool (decide (¬ Sz p g k))) ?_ (fun g1 => ?_)
  · all_goals (refine w_mov rfl (by (conv => lhs; whnf); first | done | rfl) ?_)
    all_goals (refine w_lss rfl (by (conv => lhs; whnf); first | done | rfl) (by (conv => lhs; whnf); first | done | rfl) ?_)
    all_goals (refine w_mov rfl (by (conv => lhs; whnf); first | done | rfl) ?_)
    all_goals (first | refine w_lit true rfl rfl rfl ?_ | refine w_lit false rfl rfl rfl ?_ | refine w_cases_od rfl rfl rfl (fun hg => ?_) (fun hg => ?_) | refine w_cases_o rfl rfl rfl (fun hg => ?_) (fun hg => ?_) | skip)
    all_goals (first | refine w_skip rfl ?_ | (refine w_mov rfl (by (conv => lhs; whnf); first | done | rfl) ?_))
    all_goals (first | refine w_skip rfl ?_ | (refine w_gtr rfl (by (conv => lhs; whnf); first | done | rfl) (by (conv => lhs; whnf); first | done | rfl) ?_))
    all_goals (first | refine w_pick_t rfl rfl (by (conv => lhs; whnf); first | done | rfl) ?_ | refine w_pick_f rfl rfl (by (conv => lhs; whnf); first | done | rfl) ?_)
    all_goals (refine w_mov rfl (by (conv => lhs; whnf); first | done | rfl) ?_)
    all_goals (first | refine w_lit true rfl rfl rfl ?_ | refine w_lit false rfl rfl rfl ?_ | refine w_cases_od rfl rfl rfl (fun hg => ?_) (fun hg => ?_) | refine w_cases_o rfl rfl rfl (fun hg => ?_) (fun hg => ?_) | skip)
    all_goals (first | refine w_skip rfl ?_ | (refine w_mov rfl (by (conv => lhs; whnf); first | done | rfl) ?_))
    all_goals (first | refine w_skip rfl ?_ | (refine w_lss rfl (by (conv => lhs; whnf); first | done | rfl) (by (conv => lhs; whnf); first | done | rfl) ?_))
    all_goals (first | refine w_pick_t rfl rfl (by (conv => lhs; whnf); first | done | rfl) ?_ | refine w_pick_f rfl rfl (by (conv => lhs; whnf); first | done | rfl) ?_)
    all_goals (refine w_mov rfl (by (conv => lhs; whnf); first | done | rfl) ?_)
    all_goals (first | refine w_lit true rfl rfl rfl ?_ | refine w_lit false rfl rfl rfl ?_ | refine w_cases_od rfl rfl rfl (fun hg => ?_) (fun hg => ?_) | refine w_cases_o rfl rfl rfl (fun hg => ?_) (fun hg => ?_) | skip)
    all_goals (first | refine w_skip rfl ?_ | (refine w_mov rfl (by (conv => lhs; whnf); first | done | rfl) ?_))
    all_goals (first | refine w_skip rfl ?_ | (refine w_gtr rfl (by (conv => lhs; whnf); first | done | rfl) (by (conv => lhs; whnf); first | done | rfl) ?_))
    all_goals (first | refine w_pick_t rfl rfl (by (conv => lhs; whnf); first | done | rfl) ?_ | refine w_pick_f rfl rfl (by (conv => lhs; whnf); first | done | rfl) ?_)
    all_goals (refine w_mov rfl (by (conv => lhs; whnf); first | done | rfl) ?_)
    all_goals (first | refine w_lit true rfl rfl rfl ?_ | refine w_lit false rfl rfl rfl ?_ | refine w_cases_od rfl rfl rfl (fun hg => ?_) (fun hg => ?_) | refine w_cases_o rfl rfl rfl (fun hg => ?_) (fun hg => ?_) | skip)
    all_goals (first | refine w_skip rfl ?_ | (refine w_mov rfl (by (conv => lhs; whnf); first | done | rfl) ?_))
    all_goals (first | refine w_skip rfl ?_ | (refine w_lss rfl (by (conv => lhs; whnf); first | done | rfl) (by (conv => lhs; whnf); first | done | rfl) ?_))
    all_goals (first | refine w_pick_t rfl rfl (by (conv => lhs; whnf); first | done | rfl) ?_ | refine w_pick_f rfl rfl (by (conv => lhs; whnf); first | done | rfl) ?_)
    all_goals (refine w_mov rfl (by (conv => lhs; whnf); first | done | rfl) ?_)
    all_goals (first | refine w_lit true rfl rfl rfl ?_ | refine w_lit false rfl rfl rfl ?_ | refine w_cases_od rfl rfl rfl (fun hg => ?_) (fun hg => ?_) | refine w_cases_o rfl rfl rfl (fun hg => ?_) (fun hg => ?_) | skip)
    all_goals (first | refine w_skip rfl ?_ | (refine w_mov rfl (by (conv => lhs; whnf); first | done | rfl) ?_))
    all_goals (first | refine w_skip rfl ?_ | (refine w_gtr rfl (by (conv => lhs; whnf); first | done | rfl) (by (conv => lhs; whnf); first | done | rfl) ?_))
    all_goals (first | refine w_pick_t rfl rfl (by (conv => lhs; whnf); first | done | rfl) ?_ | refine w_pick_f rfl rfl (by (conv => lhs; whnf); first | done | rfl) ?_)
    all_goals (refine w_nil ?_)
    all_goals (refine jn (by first | exact (Ag.upd rfl (Ag.upd rfl (Ag.upd rfl (Ag.upd rfl (Ag.upd rfl (Ag.upd rfl (Ag.upd rfl (Ag.upd rfl (Ag.upd rfl (Ag.upd rfl (Ag.upd rfl (Ag.upd rfl (Ag.upd rfl (Ag.upd rfl (Ag.upd rfl (Ag.upd rfl (Ag.upd rfl (Ag.upd rfl (Ag.upd rfl (Ag.upd rfl (Ag.upd rfl (Ag.upd rfl Ag.refl)))))))))))))))))))))) | exact (by first | ((repeat (first | with_reducible exact Ag.refl | with_reducible exact Ag.ov | (with_reducible refine Ag.upd ?_ ?_; exact rfl) | with_reducible refine Ag.putn ?_ | (with_reducible refine Ag.ovs ?_ ?_; exact rfl))); done) | (repeat (first | exact Ag.refl | exact Ag.ov | (refine Ag.upd ?_ ?_; exact rfl) | refine Ag.putn ?_ | (refine Ag.ovs ?_ ?_; exact rfl))))) (by (conv => lhs; whnf); first | done | rfl) ?_)
    all_goals (exact congrArg Value.bool (by first | rfl | (refine decide_eq_decide.2 ?_; omega) | (refine (decide_eq_true ?_).symm; omega) | (refine (decide_eq_false ?_).symm; omega) | simp_all))
  refine tq_n ?_
  refine c_cond_d (by (conv => lhs; whnf); first | done | rfl) (fun hc29 => ?_) (fun hc29 => ?_)
  · refine c_seq ?_
    refine c_region ?_
    refine x_bld rfl .nil rfl ?_
    refine x_stw rfl (by (conv => lhs; whnf); first | done | rfl) (by (conv => lhs; whnf); first | done | rfl) rfl rfl (by first | exact HasC.out | exact PutC.out | repeat (first | exact .here | apply Has.there | apply Put.there | apply Has.app | apply Put.app)) rfl ?_
    refine w_asg rfl (by (conv => lhs; whnf); first | done | rfl) ?_
    refine w_nil ?_
    refine tq_n ?_
    refine c_ret ?_
    refine tq_r ?_
    exact rq_r (ra_c (by (conv => lhs; whnf); first | done | rfl) (by first | exact HasC.out | exact PutC.out | repeat (first | exact .here | apply Has.there | apply Put.there | apply Has.app | apply Put.app)) rfl (ra_t (by (conv => lhs; whnf); first | done | rfl) .nil)) (List.Sublist.refl _) (⟨fun h => absurd h hc29, fun _ => rfl⟩)
  · have hz : Sz p g k := Decidable.not_not.1 hc29
    have hm : g * p ≤ 256 * 32 := Int.mul_le_mul (by omega) (by omega) (by omega) (by omega)
    have hm0 : 0 ≤ g * p := Int.mul_nonneg (by omega) (by omega)
    refine c_skip ?_
    refine tq_n ?_
    refine c_seq ?_
    refine d_begin_s ((List.Sublist.refl _)) [12] mixed ?_
    refine d_tk0 0 (np_then np_ret) rfl (by kernel_rfl) (by kernel_rfl) (by kernel_rfl) (by kernel_rfl) (.inl (by first | exact SubL.out | repeat (first | exact List.Sublist.refl _ | exact List.nil_sublist _ | refine .cons_cons _ ?_ | refine .cons _ ?_ | refine List.Sublist.append (List.Sublist.refl _) ?_ | exact List.sublist_append_left _ _ | refine List.Sublist.trans ?_ (List.sublist_append_right _ _)))) ?_
    refine w_mov rfl (by (conv => lhs; whnf); first | done | rfl) ?_
    refine w_nil ⟨rfl, rfl, ?_⟩
    refine d_tk0 1 (np_then np_ret) rfl (by kernel_rfl) (by kernel_rfl) (by kernel_rfl) (by kernel_rfl) (.inl (by first | exact SubL.out | repeat (first | exact List.Sublist.refl _ | exact List.nil_sublist _ | refine .cons_cons _ ?_ | refine .cons _ ?_ | refine List.Sublist.append (List.Sublist.refl _) ?_ | exact List.sublist_append_left _ _ | refine List.Sublist.trans ?_ (List.sublist_append_right _ _)))) ?_
    refine w_mov rfl (by (conv => lhs; whnf); first | done | rfl) ?_
    refine w_nil ⟨rfl, rfl, ?_⟩
    refine d_tk0 2 (np_then np_ret) rfl (by kernel_rfl) (by kernel_rfl) (by kernel_rfl) (by kernel_rfl) (.inl (by first | exact SubL.out | repeat (first | exact List.Sublist.refl _ | exact List.nil_sublist _ | refine .cons_cons _ ?_ | refine .cons _ ?_ | refine List.Sublist.append (List.Sublist.refl _) ?_ | exact List.sublist_append_left _ _ | refine List.Sublist.trans ?_ (List.sublist_append_right _ _)))) ?_
    refine w_mov rfl (by (conv => lhs; whnf); first | done | rfl) ?_
    refine w_nil ⟨rfl, rfl, ?_⟩
    refine d_tk0 4 (np_then np_ret) rfl (by kernel_rfl) (by kernel_rfl) (by kernel_rfl) (by kernel_rfl) (.inl (by first | exact SubL.out | repeat (first | exact List.Sublist.refl _ | exact List.nil_sublist _ | refine .cons_cons _ ?_ | refine .cons _ ?_ | refine List.Sublist.append (List.Sublist.refl _) ?_ | exact List.sublist_append_left _ _ | refine List.Sublist.trans ?_ (List.sublist_append_right _ _)))) ?_
    refine w_mov rfl (by (conv => lhs; whnf); first | done | rfl) ?_
    refine w_nil ⟨rfl, rfl, ?_⟩
    refine d_tk0 6 (np_then np_ret) rfl (by kernel_rfl) (by kernel_rfl) (by kernel_rfl) (by kernel_rfl) (.inl (by first | exact SubL.out | repeat (first | exact List.Sublist.refl _ | exact List.nil_sublist _ | refine .cons_cons _ ?_ | refine .cons _ ?_ | refine List.Sublist.append (List.Sublist.refl _) ?_ | exact List.sublist_append_left _ _ | refine List.Sublist.trans ?_ (List.sublist_append_right _ _)))) ?_
    refine w_mov rfl (by (conv => lhs; whnf); first | done | rfl) ?_
    refine w_nil ⟨rfl, rfl, ?_⟩
    refine d_tk0 7 (np_then np_ret) rfl (by kernel_rfl) (by kernel_rfl) (by kernel_rfl) (by kernel_rfl) (.inl (by first | exact SubL.out | repeat (first | exact List.Sublist.refl _ | exact List.nil_sublist _ | refine .cons_cons _ ?_ | refine .cons _ ?_ | refine List.Sublist.append (List.Sublist.refl _) ?_ | exact List.sublist_append_left _ _ | refine List.Sublist.trans ?_ (List.sublist_append_right _ _)))) ?_
    refine w_mov rfl (by (conv => lhs; whnf); first | done | rfl) ?_
    refine w_nil ⟨rfl, rfl, ?_⟩
    refine d_tk0 8 (np_then np_ret) rfl (by kernel_rfl) (by kernel_rfl) (by kernel_rfl) (by kernel_rfl) (.inl (by first | exact SubL.out | repeat (first | exact List.Sublist.refl _ | exact List.nil_sublist _ | refine .cons_cons _ ?_ | refine .cons _ ?_ | refine List.Sublist.append (List.Sublist.refl _) ?_ | exact List.sublist_append_left _ _ | refine List.Sublist.trans ?_ (List.sublist_append_right _ _)))) ?_
    refine w_mul rfl (by (conv => lhs; whnf); first | done | rfl) (by (conv => lhs; whnf); first | done | rfl) (by omega) ?_
    refine w_nil ⟨rfl, rfl, ?_⟩
    refine d_tk0 10 (np_then np_ret) rfl (by kernel_rfl) (by kernel_rfl) (by kernel_rfl) (by kernel_rfl) (.inl (by first | exact SubL.out | repeat (first | exact List.Sublist.refl _ | exact List.nil_sublist _ | refine .cons_cons _ ?_ | refine .cons _ ?_ | refine List.Sublist.append (List.Sublist.refl _) ?_ | exact List.sublist_append_left _ _ | refine List.Sublist.trans ?_ (List.sublist_append_right _ _)))) ?_
    refine x_bld rfl (.cons (by (conv => lhs; whnf); first | done | rfl) .nil) rfl ?_
    refine w_nil ⟨rfl, rfl, ?_⟩
    refine d_two 3 9 rfl rfl (by kernel_rfl) ?_ ?_
    · refine x_bs1 rfl (by (conv => lhs; whnf); first | done | rfl) rfl rfl rfl rfl ?_
      intro b34
      refine w_nil ⟨rfl, (.inl (by first | exact SubL.out | repeat (first | exact List.Sublist.refl _ | exact List.nil_sublist _ | refine .cons_cons _ ?_ | refine .cons _ ?_ | refine List.Sublist.append (List.Sublist.refl _) ?_ | exact List.sublist_append_left _ _ | refine List.Sublist.trans ?_ (List.sublist_append_right _ _)))), ?_⟩
      refine d_two 5 9 rfl rfl (by kernel_rfl) ?_ ?_
      · refine x_call (repeat_g (a := -1) (n := g) ⟨_, _, rfl, Nat.le_refl _, by decide, fun _ => rfl, fun i c hc => by rw [flatI] at hc; exact rd_lit hc (by first | exact HasC.out | exact PutC.out | repeat (first | exact .here | apply Has.there | apply Put.there | apply Has.app | apply Put.app))⟩ (by omega) (by omega)) rfl rfl rfl ?_
        rintro _ _ ⟨S74, rfl, hS74⟩
        obtain ⟨A36, cap36, rfl, hc36⟩ := hS74.form
        refine w_nil ⟨rfl, (.inl (by first | exact SubL.out | repeat (first | exact List.Sublist.refl _ | exact List.nil_sublist _ | refine .cons_cons _ ?_ | refine .cons _ ?_ | refine List.Sublist.append (List.Sublist.refl _) ?_ | exact List.sublist_append_left _ _ | refine List.Sublist.trans ?_ (List.sublist_append_right _ _)))), ?_⟩
        refine d_one 9 rfl (by kernel_rfl) ?_
        refine x_mk rfl (by (conv => lhs; whnf); first | done | rfl) (by (conv => lhs; whnf); first | done | rfl) (by omega) (by omega) (by decide) ?_
        intro b40
        refine w_nil ⟨rfl, (.inl (by first | exact SubL.out | repeat (first | exact List.Sublist.refl _ | exact List.nil_sublist _ | refine .cons_cons _ ?_ | refine .cons _ ?_ | refine List.Sublist.append (List.Sublist.refl _) ?_ | exact List.sublist_append_left _ _ | refine List.Sublist.trans ?_ (List.sublist_append_right _ _)))), ?_⟩
        refine d_tk0 11 (np_then np_ret) rfl (by kernel_rfl) (by kernel_rfl) (by kernel_rfl) (by kernel_rfl) (.inl (by first | exact SubL.out | repeat (first | exact List.Sublist.refl _ | exact List.nil_sublist _ | refine .cons_cons _ ?_ | refine .cons _ ?_ | refine List.Sublist.append (List.Sublist.refl _) ?_ | exact List.sublist_append_left _ _ | refine List.Sublist.trans ?_ (List.sublist_append_right _ _)))) ?_
        refine x_bld rfl (.cons (by (conv => lhs; whnf); first | done | rfl) (.cons (by (conv => lhs; whnf); first | done | rfl) (.cons (by (conv => lhs; whnf); first | done | rfl) (.cons (by (conv => lhs; whnf); first | done | rfl) (.cons (by (conv => lhs; whnf); first | done | rfl) (.cons (by (conv => lhs; whnf); first | done | rfl) .nil)))))) rfl ?_
        refine w_nil ⟨rfl, rfl, ?_⟩
        refine d_one 12 rfl (by kernel_rfl) ?_
        refine x_stw rfl (by (conv => lhs; whnf); first | done | rfl) (by (conv => lhs; whnf); first | done | rfl) rfl rfl (by first | exact HasC.out | exact PutC.out | repeat (first | exact .here | apply Has.there | apply Put.there | apply Has.app | apply Put.app)) rfl ?_
        refine w_nil ⟨rfl, (.inr (by kernel_rfl)), ?_⟩
        refine d_tk0 13 (np_then np_ret) rfl (by kernel_rfl) (by kernel_rfl) (by kernel_rfl) (by kernel_rfl) (.inr (by kernel_rfl)) ?_
        refine w_asg rfl (by (conv => lhs; whnf); first | done | rfl) ?_
        refine w_nil ⟨rfl, rfl, ?_⟩
        refine d_done (by kernel_rfl) ?_
        refine tq_n ?_
        refine c_ret ?_
        exact rq_r (ra_c (by (conv => lhs; whnf); first | done | rfl) (by first | exact HasC.out | exact PutC.out | repeat (first | exact .here | apply Has.there | apply Put.there | apply Has.app | apply Put.app)) rfl (ra_t (by (conv => lhs; whnf); first | done | rfl) .nil)) (List.Sublist.refl _) (newR_mk hS74 (osl_full rfl (by simp)) rfl (by first | exact SubL.out | repeat (first | exact List.Sublist.refl _ | exact List.nil_sublist _ | refine .cons_cons _ ?_ | refine .cons _ ?_ | refine List.Sublist.append (List.Sublist.refl _) ?_ | exact List.sublist_append_left _ _ | refine List.Sublist.trans ?_ (List.sublist_append_right _ _))) (by first | exact SubL.out | repeat (first | exact List.Sublist.refl _ | exact List.nil_sublist _ | refine .cons_cons _ ?_ | refine .cons _ ?_ | refine List.Sublist.append (List.Sublist.refl _) ?_ | exact List.sublist_append_left _ _ | refine List.Sublist.trans ?_ (List.sublist_append_right _ _))) hz)
      · refine x_mk rfl (by (conv => lhs; whnf); first | done | rfl) (by (conv => lhs; whnf); first | done | rfl) (by omega) (by omega) (by decide) ?_
        intro b40
        refine w_nil ⟨rfl, (.inl (by first | exact SubL.out | repeat (first | exact List.Sublist.refl _ | exact List.nil_sublist _ | refine .cons_cons _ ?_ | refine .cons _ ?_ | refine List.Sublist.append (List.Sublist.refl _) ?_ | exact List.sublist_append_left _ _ | refine List.Sublist.trans ?_ (List.sublist_append_right _ _)))), ?_⟩
        refine d_one 5 rfl (by kernel_rfl) ?_
        refine x_call (repeat_g (a := -1) (n := g) ⟨_, _, rfl, Nat.le_refl _, by decide, fun _ => rfl, fun i c hc => by rw [flatI] at hc; exact rd_lit hc (by first | exact HasC.out | exact PutC.out | repeat (first | exact .here | apply Has.there | apply Put.there | apply Has.app | apply Put.app))⟩ (by omega) (by omega)) rfl rfl rfl ?_
        rintro _ _ ⟨S74, rfl, hS74⟩
        obtain ⟨A36, cap36, rfl, hc36⟩ := hS74.form
        refine w_nil ⟨rfl, (.inl (by first | exact SubL.out | repeat (first | exact List.Sublist.refl _ | exact List.nil_sublist _ | refine .cons_cons _ ?_ | refine .cons _ ?_ | refine List.Sublist.append (List.Sublist.refl _) ?_ | exact List.sublist_append_left _ _ | refine List.Sublist.trans ?_ (List.sublist_append_right _ _)))), ?_⟩
        refine d_tk0 11 (np_then np_ret) rfl (by kernel_rfl) (by kernel_rfl) (by kernel_rfl) (by kernel_rfl) (.inl (by first | exact SubL.out | repeat (first | exact List.Sublist.refl _ | exact List.nil_sublist _ | refine .cons_cons _ ?_ | refine .cons _ ?_ | refine List.Sublist.append (List.Sublist.refl _) ?_ | exact List.sublist_append_left _ _ | refine List.Sublist.trans ?_ (List.sublist_append_right _ _)))) ?_
        refine x_bld rfl (.cons (by (conv => lhs; whnf); first | done | rfl) (.cons (by (conv => lhs; whnf); first | done | rfl) (.cons (by (conv => lhs; whnf); first | done | rfl) (.cons (by (conv => lhs; whnf); first | done | rfl) (.cons (by (conv => lhs; whnf); first | done | rfl) (.cons (by (conv => lhs; whnf); first | done | rfl) .nil)))))) rfl ?_
        refine w_nil ⟨rfl, rfl, ?_⟩
        refine d_one 12 rfl (by kernel_rfl) ?_
        refine x_stw rfl (by (conv => lhs; whnf); first | done | rfl) (by (conv => lhs; whnf); first | done | rfl) rfl rfl (by first | exact HasC.out | exact PutC.out | repeat (first | exact .here | apply Has.there | apply Put.there | apply Has.app | apply Put.app)) rfl ?_
        refine w_nil ⟨rfl, (.inr (by kernel_rfl)), ?_⟩
        refine d_tk0 13 (np_then np_ret) rfl (by kernel_rfl) (by kernel_rfl) (by kernel_rfl) (by kernel_rfl) (.inr (by kernel_rfl)) ?_
        refine w_asg rfl (by (conv => lhs; whnf); first | done | rfl) ?_
        refine w_nil ⟨rfl, rfl, ?_⟩
        refine d_done (by kernel_rfl) ?_
        refine tq_n ?_
        refine c_ret ?_
        exact rq_r (ra_c (by (conv => lhs; whnf); first | done | rfl) (by first | exact HasC.out | exact PutC.out | repeat (first | exact .here | apply Has.there | apply Put.there | apply Has.app | apply Put.app)) rfl (ra_t (by (conv => lhs; whnf); first | done | rfl) .nil)) (List.Sublist.refl _) (newR_mk hS74 (osl_full rfl (by simp)) rfl (by first | exact SubL.out | repeat (first | exact List.Sublist.refl _ | exact List.nil_sublist _ | refine .cons_cons _ ?_ | refine .cons _ ?_ | refine List.Sublist.append (List.Sublist.refl _) ?_ | exact List.sublist_append_left _ _ | refine List.Sublist.trans ?_ (List.sublist_append_right _ _))) (by first | exact SubL.out | repeat (first | exact List.Sublist.refl _ | exact List.nil_sublist _ | refine .cons_cons _ ?_ | refine .cons _ ?_ | refine List.Sublist.append (List.Sublist.refl _) ?_ | exact List.sublist_append_left _ _ | refine List.Sublist.trans ?_ (List.sublist_append_right _ _))) hz)
    · refine x_mk rfl (by (conv => lhs; whnf); first | done | rfl) (by (conv => lhs; whnf); first | done | rfl) (by omega) (by omega) (by decide) ?_
      intro b40
      refine w_nil ⟨rfl, (.inl (by first | exact SubL.out | repeat (first | exact List.Sublist.refl _ | exact List.nil_sublist _ | refine .cons_cons _ ?_ | refine .cons _ ?_ | refine List.Sublist.append (List.Sublist.refl _) ?_ | exact List.sublist_append_left _ _ | refine List.Sublist.trans ?_ (List.sublist_append_right _ _)))), ?_⟩
      refine d_one 3 rfl (by kernel_rfl) ?_
      refine x_bs1 rfl (by (conv => lhs; whnf); first | done | rfl) rfl rfl rfl rfl ?_
      intro b34
      refine w_nil ⟨rfl, (.inl (by first | exact SubL.out | repeat (first | exact List.Sublist.refl _ | exact List.nil_sublist _ | refine .cons_cons _ ?_ | refine .cons _ ?_ | refine List.Sublist.append (List.Sublist.refl _) ?_ | exact List.sublist_append_left _ _ | refine List.Sublist.trans ?_ (List.sublist_append_right _ _)))), ?_⟩
      refine d_one 5 rfl (by kernel_rfl) ?_
      refine x_call (repeat_g (a := -1) (n := g) ⟨_, _, rfl, Nat.le_refl _, by decide, fun _ => rfl, fun i c hc => by rw [flatI] at hc; exact rd_lit hc (by first | exact HasC.out | exact PutC.out | repeat (first | exact .here | apply Has.there | apply Put.there | apply Has.app | apply Put.app))⟩ (by omega) (by omega)) rfl rfl rfl ?_
      rintro _ _ ⟨S74, rfl, hS74⟩
      obtain ⟨A36, cap36, rfl, hc36⟩ := hS74.form
      refine w_nil ⟨rfl, (.inl (by first | exact SubL.out | repeat (first | exact List.Sublist.refl _ | exact List.nil_sublist _ | refine .cons_cons _ ?_ | refine .cons _ ?_ | refine List.Sublist.append (List.Sublist.refl _) ?_ | exact List.sublist_append_left _ _ | refine List.Sublist.trans ?_ (List.sublist_append_right _ _)))), ?_⟩
      refine d_tk0 11 (np_then np_ret) rfl (by kernel_rfl) (by kernel_rfl) (by kernel_rfl) (by kernel_rfl) (.inl (by first | exact SubL.out | repeat (first | exact List.Sublist.refl _ | exact List.nil_sublist _ | refine .cons_cons _ ?_ | refine .cons _ ?_ | refine List.Sublist.append (List.Sublist.refl _) ?_ | exact List.sublist_append_left _ _ | refine List.Sublist.trans ?_ (List.sublist_append_right _ _)))) ?_
      refine x_bld rfl (.cons (by (conv => lhs; whnf); first | done | rfl) (.cons (by (conv => lhs; whnf); first | done | rfl) (.cons (by (conv => lhs; whnf); first | done | rfl) (.cons (by (conv => lhs; whnf); first | done | rfl) (.cons (by (conv => lhs; whnf); first | done | rfl) (.cons (by (conv => lhs; whnf); first | done | rfl) .nil)))))) rfl ?_
      refine w_nil ⟨rfl, rfl, ?_⟩
      refine d_one 12 rfl (by kernel_rfl) ?_
      refine x_stw rfl (by (conv => lhs; whnf); first | done | rfl) (by (conv => lhs; whnf); first | done | rfl) rfl rfl (by first | exact HasC.out | exact PutC.out | repeat (first | exact .here | apply Has.there | apply Put.there | apply Has.app | apply Put.app)) rfl ?_
      refine w_nil ⟨rfl, (.inr (by kernel_rfl)), ?_⟩
      refine d_tk0 13 (np_then np_ret) rfl (by kernel_rfl) (by kernel_rfl) (by kernel_rfl) (by kernel_rfl) (.inr (by kernel_rfl)) ?_
      refine w_asg rfl (by (conv => lhs; whnf); first | done | rfl) ?_
      refine w_nil ⟨rfl, rfl, ?_⟩
      refine d_done (by kernel_rfl) ?_
      refine tq_n ?_
      refine c_ret ?_
      exact rq_r (ra_c (by (conv => lhs; whnf); first | done | rfl) (by first | exact HasC.out | exact PutC.out | repeat (first | exact .here | apply Has.there | apply Put.there | apply Has.app | apply Put.app)) rfl (ra_t (by (conv => lhs; whnf); first | done | rfl) .nil)) (List.Sublist.refl _) (newR_mk hS74 (osl_full rfl (by simp)) rfl (by first | exact SubL.out | repeat (first | exact List.Sublist.refl _ | exact List.nil_sublist _ | refine .cons_cons _ ?_ | refine .cons _ ?_ | refine List.Sublist.append (List.Sublist.refl _) ?_ | exact List.sublist_append_left _ _ | refine List.Sublist.trans ?_ (List.sublist_append_right _ _))) (by first | exact SubL.out | repeat (first | exact List.Sublist.refl _ | exact List.nil_sublist _ | refine .cons_cons _ ?_ | refine .cons _ ?_ | refine List.Sublist.append (List.Sublist.refl _) ?_ | exact List.sublist_append_left _ _ | refine List.Sublist.trans ?_ (List.sublist_append_right _ _))) hz)
end
end Go.Proofs.Ytnmhhelcaibdoaa.Pl
