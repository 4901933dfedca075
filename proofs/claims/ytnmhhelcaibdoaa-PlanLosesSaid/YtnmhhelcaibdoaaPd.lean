/- Which tables may be: plan.Check. -/
import Derived.Test.YtnmhhelcaibdoaaPc
namespace Go.Proofs.Ytnmhhelcaibdoaa.Pl
open Go Go.RowKit Sl
set_option linter.unusedVariables false
set_option linter.unusedSimpArgs false
/-- The blocks in use, in the order of Data, the sequential log, the logs; the logs' pages. -/
def nn (l : List Int) : List Int := l.filter fun x => decide (0 ≤ x)
theorem mem_nn {l : List Int} {x : Int} : x ∈ nn l ↔ x ∈ l ∧ 0 ≤ x := by simp [nn]
theorem nn_snoc {l : List Int} {x : Int} : nn (l ++ [x]) = if 0 ≤ x then nn l ++ [x] else nn l := by
  unfold nn; rw [List.filter_append]; split <;> simp_all
theorem nn_app {l l' : List Int} : nn (l ++ l') = nn l ++ nn l' := by unfold nn; rw [List.filter_append]
def May (t : Tb) : Prop := Lists t ∧ (∀ d ∈ t.da, -1 ≤ d ∧ d ≤ 255) ∧ (nn (t.sp :: t.da ++ t.lo.map Lg.ph)).Nodup ∧ (nn (t.lo.flatMap Lg.pg)).Nodup ∧ ∀ i : Nat, t.ha[i]? = some true → ∃ d, t.da[((i : Int) / t.P).toNat]? = some d ∧ 0 ≤ d
noncomputable instance (t : Tb) : Decidable (May t) := Classical.propDecidable _
/-! The set of what was seen, as a map. -/
def sv (es : List MapEntry) (k : Int) : Bool := match mfind k es with | some (.bool b) => b | _ => false
structure SM (es : List MapEntry) (l : List Int) : Prop where
  keys : mkeys es
  vals : ∀ k v, mfind k es = some v → ∃ b, v = .bool b
  mem : ∀ k, sv es k = true ↔ k ∈ l
theorem SM.get {es : List MapEntry} {l : List Int} (h : SM es l) (k : Int) : (mfind k es).getD (.bool false) = .bool (decide (k ∈ l)) := by
  have h1 := h.mem k
  unfold sv at h1
  cases hm : mfind k es with
  | none => rw [hm] at h1; simp only [Bool.false_eq_true, false_iff] at h1; simp [h1]
  | some v =>
    obtain ⟨b, rfl⟩ := h.vals k v hm
    rw [hm] at h1; simp only at h1
    simp only [Option.getD_some]
    cases b
    · simp only [Bool.false_eq_true, false_iff] at h1; simp [h1]
    · simp only [true_iff] at h1; simp [h1]
theorem SM.nil : SM [] [] := ⟨fun e h => (by cases h), fun k v h => (by cases h), fun k => by simp [sv, mfind]⟩
theorem SM.add {es es' : List MapEntry} {l : List Int} {a : Int} (h : SM es l) (hk : mkeys es') (hf : ∀ k, mfind k es' = if k = a then some (.bool true) else mfind k es) : SM es' (l ++ [a]) := by
  refine ⟨hk, fun k v hv => ?_, fun k => ?_⟩
  · rw [hf] at hv
    split at hv
    · cases hv; exact ⟨true, rfl⟩
    · exact h.vals k v hv
  · have := h.mem k
    unfold sv at this ⊢
    rw [hf]
    by_cases hka : k = a
    · simp [hka]
    · simp only [hka, if_false, List.mem_append, List.mem_singleton, or_false]; exact this
section
variable {w0 w : World} {L : Own}
theorem use_g {b : Nat} {es : Array MapEntry} {clk : Nat} {l : List Int} {a : Int} {Lf : Obj → Own} (hp : ∀ o', Put L b (.map es clk) o' (Lf o')) (hs : SM es.toList l) : Gives Try.prog w0 L 70 [.map (some b), .int .i64 a] (fun v' L' => v' = .bool (decide (¬ (0 ≤ a ∧ a ∈ l))) ∧ ∃ es' clk', L' = Lf (.map es' clk') ∧ SM es'.toList (if 0 ≤ a then l ++ [a] else l)) := by
  have hget := hs.get a
  have hL : ∃ es' clk', L = Lf (.map es' clk') ∨ True := ⟨es, clk, .inr trivial⟩
  have hb := (hp (.map es clk)).has
  have hself : Put L b (.map es clk) (.map es clk) (Lf (.map es clk)) := hp _
  have hLL : L = Lf (.map es clk) := hself.eq_same
  refine enter Try.func70 rfl Try.ntmps70 Try.results70 (Nat.le_of_ble_eq_true rfl) ?_
  refine c_seq ?_
  refine c_region ?_
  refine w_asg rfl (by (conv => lhs; whnf); first | done | rfl) ?_
  refine w_nil ?_
  refine tq_n ?_
  refine c_seq ?_
  refine c_region_j [6, 7, 8, 9, 10, 11, 12, 5] 5 (.bool (decide (0 ≤ a ∧ a ∈ l))) ?_ (fun g1 => ?_)
  · all_goals (refine w_mov rfl (by (conv => lhs; whnf); first | done | rfl) ?_)
    all_goals (refine w_geq rfl (by (conv => lhs; whnf); first | done | rfl) (by (conv => lhs; whnf); first | done | rfl) ?_)
    all_goals (refine w_mov rfl (by (conv => lhs; whnf); first | done | rfl) ?_)
    all_goals (first | refine w_lit true rfl rfl rfl ?_ | refine w_lit false rfl rfl rfl ?_ | refine w_cases_od rfl rfl rfl (fun hg => ?_) (fun hg => ?_) | refine w_cases_o rfl rfl rfl (fun hg => ?_) (fun hg => ?_) | skip)
    all_goals (first | refine w_skip rfl ?_ | (refine w_mov rfl (by (conv => lhs; whnf); first | done | rfl) ?_))
    all_goals (first | refine w_skip rfl ?_ | (refine w_mov rfl (by (conv => lhs; whnf); first | done | rfl) ?_))
    all_goals (first | refine w_skip rfl ?_ | (refine x_lk rfl (by (conv => lhs; whnf); first | done | rfl) (by (conv => lhs; whnf); first | done | rfl) hb (hs.keys) ?_))
    all_goals (first | refine w_pick_t rfl rfl (by (conv => lhs; whnf); first | done | rfl) ?_ | refine w_pick_f rfl rfl (by (conv => lhs; whnf); first | done | rfl) ?_)
    all_goals (refine w_asg rfl (by (conv => lhs; whnf); first | done | rfl) ?_)
    all_goals (refine w_nil ?_)
    all_goals (refine jn (by first | exact (Ag.upd rfl (Ag.upd rfl (Ag.upd rfl (Ag.upd rfl (Ag.upd rfl (Ag.upd rfl (Ag.upd rfl (Ag.upd rfl Ag.refl)))))))) | exact (by first | ((repeat (first | with_reducible exact Ag.refl | with_reducible exact Ag.ov | (with_reducible refine Ag.upd ?_ ?_; exact rfl) | with_reducible refine Ag.putn ?_ | (with_reducible refine Ag.ovs ?_ ?_; exact rfl))); done) | (repeat (first | exact Ag.refl | exact Ag.ov | (refine Ag.upd ?_ ?_; exact rfl) | refine Ag.putn ?_ | (refine Ag.ovs ?_ ?_; exact rfl))))) (by (conv => lhs; whnf); first | done | rfl) ?_)
    all_goals (exact (by first | exact hget.trans (congrArg Value.bool (decide_eq_decide.2 ⟨fun h => ⟨hg, h⟩, fun h => h.2⟩)) | exact congrArg Value.bool (decide_eq_false (fun h => hg h.1)).symm))
  refine tq_n ?_
  refine c_seq ?_
  refine c_seq ?_
  refine c_region ?_
  refine w_mov rfl (by (conv => lhs; whnf); first | done | rfl) ?_
  refine w_geq rfl (by (conv => lhs; whnf); first | done | rfl) (by (conv => lhs; whnf); first | done | rfl) ?_
  refine w_nil ?_
  refine tq_n ?_
  refine c_cond_d (by (conv => lhs; whnf); first | done | rfl) (fun hc14 => ?_) (fun hc14 => ?_)
  · refine c_region ?_
    refine w_mov rfl (by (conv => lhs; whnf); first | done | rfl) ?_
    refine w_mov rfl (by (conv => lhs; whnf); first | done | rfl) ?_
    refine x_mu (Lf := Lf) rfl (by (conv => lhs; whnf); first | done | rfl) (by (conv => lhs; whnf); first | done | rfl) (by (conv => lhs; whnf); first | done | rfl) (fun _ => hp _) (hs.keys) ?_
    rintro es2 clk2 hk2 hf2
    refine w_nil ?_
    refine tq_n ?_
    refine c_seq ?_
    refine c_region ?_
    refine w_mov rfl (by (conv => lhs; whnf); first | done | rfl) ?_
    refine w_notd rfl (by (conv => lhs; whnf); first | done | rfl) ?_
    refine w_asg rfl (by (conv => lhs; whnf); first | done | rfl) ?_
    refine w_nil ?_
    refine tq_n ?_
    refine c_ret ?_
    exact rq_r (ra_t (by (conv => lhs; whnf); first | done | rfl) .nil) (List.Sublist.refl _) (⟨rfl, _, _, rfl, by rw [if_pos hc14]; exact hs.add hk2 hf2⟩)
  · refine c_skip ?_
    refine tq_n ?_
    refine c_seq ?_
    refine c_region ?_
    refine w_mov rfl (by (conv => lhs; whnf); first | done | rfl) ?_
    refine w_notd rfl (by (conv => lhs; whnf); first | done | rfl) ?_
    refine w_asg rfl (by (conv => lhs; whnf); first | done | rfl) ?_
    refine w_nil ?_
    refine tq_n ?_
    refine c_ret ?_
    exact rq_r (ra_t (by (conv => lhs; whnf); first | done | rfl) .nil) (List.Sublist.refl _) (⟨rfl, es, clk, hLL, by rw [if_neg hc14]; exact hs⟩)
/-- So far: p tells whether A holds; then the maps are the sets l1, l2. -/
structure St (A : Prop) (p : Bool) (es1 : Array MapEntry) (l1 : List Int) (es2 : Array MapEntry) (l2 : List Int) : Prop where
  iff : p = true ↔ A
  sm : p = true → SM es1.toList l1 ∧ SM es2.toList l2
theorem St.no {A A' : Prop} {p : Bool} {es1 es2 es1' es2' : Array MapEntry} {l1 l2 l1' l2' : List Int} (h : St A p es1 l1 es2 l2) (hp : p = false) (hA : A' → A) : St A' false es1' l1' es2' l2' :=
  ⟨⟨fun h => (by cases h), fun h2 => (by have := h.iff.2 (hA h2); rw [hp] at this; exact this)⟩, fun h => (by cases h)⟩
theorem St.no2 {A' : Prop} {es1' es2' : Array MapEntry} {l1' l2' : List Int} (hA : ¬ A') : St A' false es1' l1' es2' l2' := ⟨⟨fun h => (by cases h), fun h2 => absurd h2 hA⟩, fun h => (by cases h)⟩
theorem nodup_step {l : List Int} {a : Int} : (nn (l ++ [a])).Nodup ↔ (nn l).Nodup ∧ ¬ (0 ≤ a ∧ a ∈ nn l) := by
  rw [nn_snoc]
  split
  · rename_i h
    rw [List.nodup_append]
    constructor
    · rintro ⟨h1, _, h2⟩; exact ⟨h1, fun h3 => h2 a h3.2 a (by simp) rfl⟩
    · rintro ⟨h1, h2⟩; exact ⟨h1, by simp, fun x hx y hy => by rw [List.mem_singleton.1 hy]; intro e; subst e; exact h2 ⟨h, hx⟩⟩
  · rename_i h
    exact ⟨fun h1 => ⟨h1, fun h2 => h h2.1⟩, fun h1 => h1.1⟩
theorem St.one {A A' : Prop} {p : Bool} {es1 es2 es1' : Array MapEntry} {l l2 : List Int} {a : Int} (h : St A p es1 (nn l) es2 l2) (hp : p = true) (hs : SM es1'.toList (if 0 ≤ a then nn l ++ [a] else nn l)) (hA : A' ↔ A ∧ ¬ (0 ≤ a ∧ a ∈ nn l)) :
    St A' (decide (¬ (0 ≤ a ∧ a ∈ nn l))) es1' (nn (l ++ [a])) es2 l2 := by
  refine ⟨?_, fun _ => ⟨by rw [nn_snoc]; exact hs, (h.sm hp).2⟩⟩
  rw [decide_eq_true_eq, hA]
  exact ⟨fun h1 => ⟨h.iff.1 hp, h1⟩, fun h1 => h1.2⟩
theorem St.two {A A' : Prop} {p : Bool} {es1 es2 es2' : Array MapEntry} {l l1 : List Int} {a : Int} (h : St A p es1 l1 es2 (nn l)) (hp : p = true) (hs : SM es2'.toList (if 0 ≤ a then nn l ++ [a] else nn l)) (hA : A' ↔ A ∧ ¬ (0 ≤ a ∧ a ∈ nn l)) :
    St A' (decide (¬ (0 ≤ a ∧ a ∈ nn l))) es1 l1 es2' (nn (l ++ [a])) := by
  refine ⟨?_, fun _ => ⟨(h.sm hp).1, by rw [nn_snoc]; exact hs⟩⟩
  rw [decide_eq_true_eq, hA]
  exact ⟨fun h1 => ⟨h.iff.1 hp, h1⟩, fun h1 => h1.2⟩
end
def A1 (t : Tb) (k : Nat) : Prop := (∀ d ∈ t.da.take k, -1 ≤ d ∧ d ≤ 255) ∧ (nn (t.sp :: t.da.take k)).Nodup
def A2 (t : Tb) (k : Nat) : Prop := A1 t t.da.length ∧ (nn (t.sp :: t.da ++ (t.lo.take k).map Lg.ph)).Nodup ∧ (nn ((t.lo.take k).flatMap Lg.pg)).Nodup
def A3 (t : Tb) (k j : Nat) (l : Lg) : Prop := A1 t t.da.length ∧ (nn (t.sp :: t.da ++ (t.lo.take (k + 1)).map Lg.ph)).Nodup ∧ (nn ((t.lo.take k).flatMap Lg.pg ++ l.pg.take j)).Nodup
def A4 (t : Tb) (k : Nat) : Prop := A2 t t.lo.length ∧ ∀ i : Nat, i < k → t.ha[i]? = some true → ∃ d, t.da[((i : Int) / t.P).toNat]? = some d ∧ 0 ≤ d
theorem A1_step {t : Tb} {k : Nat} (hk : k < t.da.length) : A1 t (k + 1) ↔ A1 t k ∧ (-1 ≤ t.da[k] ∧ t.da[k] ≤ 255) ∧ ¬ (0 ≤ t.da[k] ∧ t.da[k] ∈ nn (t.sp :: t.da.take k)) := by
  unfold A1
  rw [take_succ' hk, ← List.cons_append, nodup_step]
  constructor
  · rintro ⟨h1, h2, h3⟩
    exact ⟨⟨fun d hd => h1 d (List.mem_append_left _ hd), h2⟩, h1 _ (List.mem_append_right _ (List.mem_singleton.2 rfl)), h3⟩
  · rintro ⟨⟨h1, h2⟩, h3, h4⟩
    exact ⟨fun d hd => (List.mem_append.1 hd).elim (h1 d) (fun h => by rw [List.mem_singleton.1 h]; exact h3), h2, h4⟩
theorem A3_zero {t : Tb} {k : Nat} (hk : k < t.lo.length) : A3 t k 0 (t.lo[k]) ↔ A2 t k ∧ ¬ (0 ≤ (t.lo[k]).ph ∧ (t.lo[k]).ph ∈ nn (t.sp :: t.da ++ (t.lo.take k).map Lg.ph)) := by
  unfold A3 A2
  rw [take_succ' hk, List.map_append, List.map_singleton, ← List.append_assoc, nodup_step, List.take_zero, List.append_nil]
  exact ⟨fun ⟨a, ⟨b, c⟩, d⟩ => ⟨⟨a, b, d⟩, c⟩, fun ⟨⟨a, b, d⟩, c⟩ => ⟨a, ⟨b, c⟩, d⟩⟩
theorem A3_step {t : Tb} {k j : Nat} {l : Lg} (hj : j < l.pg.length) : A3 t k (j + 1) l ↔ A3 t k j l ∧ ¬ (0 ≤ l.pg[j] ∧ l.pg[j] ∈ nn ((t.lo.take k).flatMap Lg.pg ++ l.pg.take j)) := by
  unfold A3
  rw [take_succ' hj, ← List.append_assoc, nodup_step]
  exact ⟨fun ⟨a, b, c, d⟩ => ⟨⟨a, b, c⟩, d⟩, fun ⟨⟨a, b, c⟩, d⟩ => ⟨a, b, c, d⟩⟩
theorem A3_end {t : Tb} {k j : Nat} (hk : k < t.lo.length) (hj : (t.lo[k]).pg.length ≤ j) : A3 t k j (t.lo[k]) ↔ A2 t (k + 1) := by
  unfold A3 A2
  rw [List.take_of_length_le hj]
  have : (t.lo.take (k + 1)).flatMap Lg.pg = (t.lo.take k).flatMap Lg.pg ++ (t.lo[k]).pg := by rw [take_succ' hk, List.flatMap_append]; simp
  rw [this]
theorem may_iff {t : Tb} (h : Lists t) : May t ↔ A4 t t.ha.length := by
  unfold May A4 A2 A1
  rw [List.take_of_length_le (Nat.le_refl t.da.length), List.take_of_length_le (Nat.le_refl t.lo.length)]
  constructor
  · rintro ⟨_, h1, h2, h3, h4⟩
    refine ⟨⟨⟨h1, ?_⟩, h2, h3⟩, fun i _ => h4 i⟩
    rw [nn_app] at h2
    exact (List.nodup_append.1 h2).1
  · rintro ⟨⟨⟨h1, _⟩, h2, h3⟩, h4⟩
    exact ⟨h, h1, h2, h3, fun i hi => h4 i (List.getElem?_eq_some_iff.1 hi).1 hi⟩
theorem st0 {es0 : Array MapEntry} {t : Tb} (h : SM es0.toList (if 0 ≤ t.sp then [] ++ [t.sp] else [])) : St (A1 t 0) (decide (¬ (0 ≤ t.sp ∧ t.sp ∈ ([] : List Int)))) es0 (nn (t.sp :: t.da.take 0)) #[] [] := by
  have e : nn (t.sp :: t.da.take 0) = if 0 ≤ t.sp then [] ++ [t.sp] else [] := by
    rw [List.take_zero]; exact nn_snoc (l := [])
  refine ⟨?_, fun _ => ⟨by rw [e]; exact h, SM.nil⟩⟩
  simp only [List.not_mem_nil, and_false, not_false_eq_true, decide_true, true_iff]
  refine ⟨fun d hd => by simp at hd, ?_⟩
  rw [e]; split <;> simp
theorem st_A2 {t : Tb} {k : Nat} {p : Bool} {es1 : Array MapEntry} (hk : t.da.length ≤ k) (h : St (A1 t k) p es1 (nn (t.sp :: t.da.take k)) #[] []) : St (A2 t 0) p es1 (nn (t.sp :: t.da ++ (t.lo.take 0).map Lg.ph)) #[] (nn ((t.lo.take 0).flatMap Lg.pg)) := by
  have e : nn (t.sp :: t.da ++ (t.lo.take 0).map Lg.ph) = nn (t.sp :: t.da) := by simp
  rw [List.take_of_length_le hk] at h
  refine ⟨?_, fun hp => ⟨by rw [e]; exact (h.sm hp).1, by have := (h.sm hp).2; simpa [nn] using this⟩⟩
  rw [h.iff]
  unfold A1 A2 A1
  rw [List.take_of_length_le hk, List.take_of_length_le (Nat.le_refl _), e]
  simp [nn]
theorem st_A3 {t : Tb} {k j : Nat} {p : Bool} {es1 es2 : Array MapEntry} (hk : k < t.lo.length) (hj : (t.lo[k]).pg.length ≤ j) (h : St (A3 t k j (t.lo[k])) p es1 (nn (t.sp :: t.da ++ (t.lo.take (k + 1)).map Lg.ph)) es2 (nn ((t.lo.take k).flatMap Lg.pg ++ (t.lo[k]).pg.take j))) :
    St (A2 t (k + 1)) p es1 (nn (t.sp :: t.da ++ (t.lo.take (k + 1)).map Lg.ph)) es2 (nn ((t.lo.take (k + 1)).flatMap Lg.pg)) := by
  refine ⟨h.iff.trans (A3_end hk hj), fun hp => ⟨(h.sm hp).1, ?_⟩⟩
  have := (h.sm hp).2
  rw [List.take_of_length_le hj] at this
  rw [show (t.lo.take (k + 1)).flatMap Lg.pg = (t.lo.take k).flatMap Lg.pg ++ (t.lo[k]).pg by rw [take_succ' hk, List.flatMap_append]; simp]
  exact this
theorem st_log {t : Tb} {k : Nat} {p : Bool} {es1 es2 es3 : Array MapEntry} (hk : k < t.lo.length) (h : St (A2 t k) p es1 (nn (t.sp :: t.da ++ (t.lo.take k).map Lg.ph)) es2 (nn ((t.lo.take k).flatMap Lg.pg))) (hp : p = true)
    (hs : SM es3.toList (if 0 ≤ (t.lo[k]).ph then nn (t.sp :: t.da ++ (t.lo.take k).map Lg.ph) ++ [(t.lo[k]).ph] else nn (t.sp :: t.da ++ (t.lo.take k).map Lg.ph))) :
    St (A3 t k 0 (t.lo[k])) (decide (¬ (0 ≤ (t.lo[k]).ph ∧ (t.lo[k]).ph ∈ nn (t.sp :: t.da ++ (t.lo.take k).map Lg.ph)))) es3 (nn (t.sp :: t.da ++ (t.lo.take (k + 1)).map Lg.ph)) es2 (nn ((t.lo.take k).flatMap Lg.pg ++ (t.lo[k]).pg.take 0)) := by
  have := h.one hp hs (A3_zero hk)
  rw [take_succ' hk, List.map_append, List.map_singleton, ← List.append_assoc, List.take_zero, List.append_nil]
  exact this
theorem div_lt {t : Tb} {i : Nat} (h : Lists t) (hi : i < t.ha.length) : ((i : Int) / t.P).toNat < t.da.length := by
  obtain ⟨⟨h1, h2, h3, _⟩, _⟩ := h
  have hP : 0 < t.P := by omega
  have : (i : Int) / t.P < t.G := by
    apply Int.ediv_lt_of_lt_mul hP
    omega
  omega
theorem div_ge {t : Tb} {i : Nat} (h : Lists t) : 0 ≤ (i : Int) / t.P := Int.ediv_nonneg (by omega) (by have := h.1.1.1.1; omega)
theorem A4_step {t : Tb} {i : Nat} {p : Bool} (hi : i < t.ha.length) (hd : ((i : Int) / t.P).toNat < t.da.length) (hp : p = true ↔ A4 t i) : (p = true ∧ (t.ha[i] = false ∨ 0 ≤ t.da[((i : Int) / t.P).toNat])) ↔ A4 t (i + 1) := by
  rw [hp]
  unfold A4
  constructor
  · rintro ⟨⟨h1, h2⟩, h3⟩
    refine ⟨h1, fun k hk hv => ?_⟩
    by_cases hki : k = i
    · subst hki
      rw [getN hi] at hv
      injection hv with hv
      rcases h3 with h3 | h3
      · rw [h3] at hv; cases hv
      · exact ⟨_, getN hd, h3⟩
    · exact h2 k (by omega) hv
  · rintro ⟨h1, h2⟩
    refine ⟨⟨h1, fun k hk => h2 k (by omega)⟩, ?_⟩
    cases hb : t.ha[i] with
    | false => exact .inl rfl
    | true =>
      obtain ⟨d, hd1, hd2⟩ := h2 i (by omega) (by rw [getN hi, hb])
      rw [getN hd] at hd1
      injection hd1 with hd1
      exact .inr (hd1 ▸ hd2)
section
variable {w0 : World} {L : Own}
theorem check_g {v : Value} {t : Tb} (h : TabR w0 L v t) : Gives Try.prog w0 L 30 [v] (fun v' L' => v' = .int .i64 (if May t then 0 else 50) ∧ L' = L) := by
  refine enterP Try.func30 rfl Try.ntmps30 Try.results30 (Nat.le_of_ble_eq_true rfl) fun w hM => ?_
  have hT := h.at hM
  obtain ⟨vd, vh, vl, rfl, hd, hh, hlo⟩ := ((h).at hM).ex; obtain ⟨Ad, cd, rfl, hdc, hdl, hdA, hdR⟩ := id hd.ex; obtain ⟨Ah, ch, rfl, hhc, hhl, hhA, hhR⟩ := id hh.ex; obtain ⟨Al, cl, rfl, hlc, hll, hlA, hlR⟩ := LogR.opn hlo
  clear hM
  refine c_seq ?_
  refine c_region ?_
  refine x_boxa rfl (by (conv => lhs; whnf); first | done | rfl) ?_
  intro b1
  refine w_asg rfl (by (conv => lhs; whnf); first | done | rfl) ?_
  refine w_nil ?_
  refine tq_n ?_
  refine c_seq ?_
  refine c_seq ?_
  refine c_region ?_
  refine x_ldao rfl (by (conv => lhs; whnf); first | done | rfl) (by first | exact HasC.out | exact PutC.out | repeat (first | exact .here | apply Has.there | apply Put.there | apply Has.app | apply Put.app)) rfl ?_
  refine x_callp (by decide) (lists_g (hT.sub (List.nil_sublist _))) rfl rfl rfl ?_
  refine w_notd rfl (by (conv => lhs; whnf); first | done | rfl) ?_
  refine w_nil ?_
  refine tq_n ?_
  refine c_cond_d (by (conv => lhs; whnf); first | done | rfl) (fun hc17 => ?_) (fun hc17 => ?_)
  · refine c_seq ?_
    refine c_region ?_
    refine w_asg rfl (by (conv => lhs; whnf); first | done | rfl) ?_
    refine w_nil ?_
    refine tq_n ?_
    refine c_ret ?_
    refine tq_r ?_
    exact rq_r (ra_t (by (conv => lhs; whnf); first | done | rfl) .nil) (List.nil_sublist _) (⟨by rw [if_neg (fun hm => hc17 hm.1)]; rfl, rfl⟩)
  · have hLi : Lists t := Decidable.not_not.1 hc17
    refine c_skip ?_
    refine tq_n ?_
    refine c_seq ?_
    refine c_region ?_
    refine x_mm rfl ?_
    intro b18
    refine x_mm rfl ?_
    intro b19
    refine w_asg rfl (by (conv => lhs; whnf); first | done | rfl) ?_
    refine w_asg rfl (by (conv => lhs; whnf); first | done | rfl) ?_
    refine w_nil ?_
    refine tq_n ?_
    refine c_seq ?_
    refine c_region ?_
    refine w_asg rfl (by (conv => lhs; whnf); first | done | rfl) ?_
    refine w_nil ?_
    refine tq_n ?_
    refine c_seq ?_
    refine c_region ?_
    refine w_mov rfl (by (conv => lhs; whnf); first | done | rfl) ?_
    refine w_mov rfl (by (conv => lhs; whnf); first | done | rfl) ?_
    refine x_fa rfl (by (conv => lhs; whnf); first | done | rfl) ?_
    refine x_fa rfl (by (conv => lhs; whnf); first | done | rfl) ?_
    refine x_ldo rfl (by (conv => lhs; whnf); first | done | rfl) (by first | exact HasC.out | exact PutC.out | repeat (first | exact .here | apply Has.there | apply Put.there | apply Has.app | apply Put.app)) (by (conv => lhs; whnf); first | done | rfl) ?_
    refine x_call (use_g (Lf := fun o => [(b19, .map #[] 0), (b18, o), (b1, B 43 (cT t Ad cd Ah ch Al cl))]) (fun _ => (by first | exact HasC.out | exact PutC.out | repeat (first | exact .here | apply Has.there | apply Put.there | apply Has.app | apply Put.app))) SM.nil) rfl rfl rfl ?_
    rintro _ _ ⟨rfl, es0, clk0, rfl, hsm0⟩
    refine w_asg rfl (by (conv => lhs; whnf); first | done | rfl) ?_
    refine w_nil ?_
    refine tq_n ?_
    refine c_seq ?_
    refine c_seq ?_
    refine c_region ?_
    refine x_fa rfl (by (conv => lhs; whnf); first | done | rfl) ?_
    refine x_ldo rfl (by (conv => lhs; whnf); first | done | rfl) (by first | exact HasC.out | exact PutC.out | repeat (first | exact .here | apply Has.there | apply Put.there | apply Has.app | apply Put.app)) (by (conv => lhs; whnf); first | done | rfl) ?_
    refine x_len rfl (by (conv => lhs; whnf); first | done | rfl) ?_
    refine w_mov rfl (by (conv => lhs; whnf); first | done | rfl) ?_
    refine w_nil ?_
    refine tq_n ?_
    refine c_block ?_
    refine c_loop_ov [30, 31, 32, 8, 33, 34, 35, 36, 37, 38, 39, 40, 41, 42, 43, 6, 44, 29] (fun m s L => ∃ (k : Nat) (p : Bool) (es1 : Array MapEntry) (c1 : Nat), k ≤ t.da.length ∧ St (A1 t k) p es1 (nn (t.sp :: t.da.take k)) #[] [] ∧ m = t.da.length - k ∧ s = [(6, .bool p), (29, .int .i64 k)] ∧ L = [(b19, .map #[] 0), (b18, .map es1 c1), (b1, B 43 (cT t Ad cd Ah ch Al cl))]) (t.da.length) [(6, .bool (decide (¬ (0 ≤ t.sp ∧ t.sp ∈ ([] : List Int))))), (29, .int .i64 (0 : Nat))] (by repeat (first | exact .nil | refine .cons rfl ?_)) (by first | exact SubL.out | repeat (first | exact List.Sublist.refl _ | exact List.nil_sublist _ | refine .cons_cons _ ?_ | refine .cons _ ?_ | refine List.Sublist.append (List.Sublist.refl _) ?_ | exact List.sublist_append_left _ _ | refine List.Sublist.trans ?_ (List.sublist_append_right _ _))) (⟨0, _, es0, clk0, by omega, st0 hsm0, by omega, rfl, rfl⟩) ?_
    rintro mI sI LI gL0 ⟨k, p, es1, c1, hk, hst, rfl, rfl, rfl⟩
    refine c_seq ?_
    refine c_region ?_
    refine w_lss rfl (by (conv => lhs; whnf); first | done | rfl) (by (conv => lhs; whnf); first | done | rfl) ?_
    refine w_nil ?_
    refine tq_n ?_
    refine c_seq ?_
    refine c_cond_d (by (conv => lhs; whnf); first | done | rfl) (fun hc30 => ?_) (fun hc30 => ?_)
    · have hlt : k < t.da.length := by omega
      refine c_skip ?_
      refine tq_n ?_
      refine c_mid_ov [31, 32, 8, 33, 34, 35, 36, 37, 38, 39, 40, 41, 42, 43, 6] (fun s L => ∃ (p : Bool) (es1 : Array MapEntry) (c1 : Nat), s = [(6, .bool p)] ∧ L = [(b19, .map #[] 0), (b18, .map es1 c1), (b1, B 43 (cT t Ad cd Ah ch Al cl))] ∧ St (A1 t (k + 1)) p es1 (nn (t.sp :: t.da.take (k + 1))) #[] []) ?_ ?_
      · refine c_block ?_
        refine c_seq ?_
        refine c_region ?_
        refine x_ixA rfl (by (conv => lhs; whnf); first | done | rfl) (by (conv => lhs; whnf); first | done | rfl) (hdA (ne_of_lt hlt)) (by omega) (by omega) ?_
        refine x_ld rfl (by (conv => lhs; whnf); first | done | rfl) (rdI (j := (k : Int)) hdR (getN hlt)) ?_
        refine w_asg rfl (by (conv => lhs; whnf); first | done | rfl) ?_
        refine w_nil ?_
        refine tq_n ?_
        refine c_region ?_
        all_goals (refine w_mov rfl (by (conv => lhs; whnf); first | done | rfl) ?_)
        all_goals (refine w_mov rfl (by (conv => lhs; whnf); first | done | rfl) ?_)
        all_goals (first | refine w_lit true rfl rfl rfl ?_ | refine w_lit false rfl rfl rfl ?_ | refine w_cases_od rfl rfl rfl (fun hg => ?_) (fun hg => ?_) | refine w_cases_o rfl rfl rfl (fun hg => ?_) (fun hg => ?_) | skip)
        all_goals (first | refine w_skip rfl ?_ | (refine w_mov rfl (by (conv => lhs; whnf); first | done | rfl) ?_))
        all_goals (first | refine w_skip rfl ?_ | (refine x_callp (by decide) (inRange_g _ _ _) rfl rfl rfl ?_))
        all_goals (first | refine w_pick_t rfl rfl (by (conv => lhs; whnf); first | done | rfl) ?_ | refine w_pick_f rfl rfl (by (conv => lhs; whnf); first | done | rfl) ?_)
        all_goals (refine w_mov rfl (by (conv => lhs; whnf); first | done | rfl) ?_)
        all_goals (first | refine w_lit true rfl rfl rfl ?_ | refine w_lit false rfl rfl rfl ?_ | refine w_cases_od rfl rfl rfl (fun hg => ?_) (fun hg => ?_) | refine w_cases_o rfl rfl rfl (fun hg => ?_) (fun hg => ?_) | skip)
        all_goals (first | refine w_skip rfl ?_ | (refine w_mov rfl (by (conv => lhs; whnf); first | done | rfl) ?_))
        all_goals (first | refine w_skip rfl ?_ | (refine w_mov rfl (by (conv => lhs; whnf); first | done | rfl) ?_))
        all_goals (first | refine w_skip rfl ?_ | (refine w_mov rfl (by (conv => lhs; whnf); first | done | rfl) ?_))
        all_goals (first | refine w_skip rfl ?_ | (refine x_call (use_g (Lf := fun o => [(b19, .map #[] 0), (b18, o), (b1, B 43 (cT t Ad cd Ah ch Al cl))]) (fun _ => (by first | exact HasC.out | exact PutC.out | repeat (first | exact .here | apply Has.there | apply Put.there | apply Has.app | apply Put.app))) (hst.sm (by assumption)).1) rfl rfl rfl ?_; rintro _ _ ⟨rfl, es2, clk2, rfl, hsm2⟩))
        all_goals (first | refine w_pick_t rfl rfl (by (conv => lhs; whnf); first | done | rfl) ?_ | refine w_pick_f rfl rfl (by (conv => lhs; whnf); first | done | rfl) ?_)
        all_goals (refine w_asg rfl (by (conv => lhs; whnf); first | done | rfl) ?_)
        all_goals (refine w_nil ?_)
        all_goals (refine bq_n ?_)
        all_goals (refine tq_n ?_)
        all_goals (exact ⟨(by first | ((repeat (first | with_reducible exact Ag.refl | with_reducible exact Ag.ov | (with_reducible refine Ag.upd ?_ ?_; exact rfl) | with_reducible refine Ag.putn ?_ | (with_reducible refine Ag.ovs ?_ ?_; exact rfl))); done) | (repeat (first | exact Ag.refl | exact Ag.ov | (refine Ag.upd ?_ ?_; exact rfl) | refine Ag.putn ?_ | (refine Ag.ovs ?_ ?_; exact rfl)))), [(6, _)], _, (by first | exact SubL.out | repeat (first | exact List.Sublist.refl _ | exact List.nil_sublist _ | refine .cons_cons _ ?_ | refine .cons _ ?_ | refine List.Sublist.append (List.Sublist.refl _) ?_ | exact List.sublist_append_left _ _ | refine List.Sublist.trans ?_ (List.sublist_append_right _ _))), (by repeat (first | exact .nil | refine .cons rfl ?_)), ⟨_, _, _, rfl, rfl, by first | exact hst.no hg (fun h => ((A1_step hlt).1 h).1) | exact St.no2 (fun h => hg ((A1_step hlt).1 h).2.1) | (rw [take_succ' hlt]; exact hst.one (by assumption) hsm2 ⟨fun h => ⟨((A1_step hlt).1 h).1, ((A1_step hlt).1 h).2.2⟩, fun h => (A1_step hlt).2 ⟨h.1, hg, h.2⟩⟩)⟩⟩)
      · rintro sM LM gM ⟨p2, es2, c2, rfl, rfl, hst2⟩
        refine c_region ?_
        refine w_add rfl (by (conv => lhs; whnf); first | done | rfl) (by (conv => lhs; whnf); first | done | rfl) (by omega) ?_
        refine w_mov rfl (by (conv => lhs; whnf); first | done | rfl) ?_
        refine w_nil ?_
        refine tq_n ?_
        exact ⟨(by first | ((repeat (first | with_reducible exact Ag.refl | with_reducible exact Ag.ov | (with_reducible refine Ag.upd ?_ ?_; exact rfl) | with_reducible refine Ag.putn ?_ | (with_reducible refine Ag.ovs ?_ ?_; exact rfl))); done) | (repeat (first | exact Ag.refl | exact Ag.ov | (refine Ag.upd ?_ ?_; exact rfl) | refine Ag.putn ?_ | (refine Ag.ovs ?_ ?_; exact rfl)))), t.da.length - (k + 1), [(6, .bool p2), (29, .int .i64 ((k + 1 : Nat) : Int))], _, by omega, (by first | exact SubL.out | repeat (first | exact List.Sublist.refl _ | exact List.nil_sublist _ | refine .cons_cons _ ?_ | refine .cons _ ?_ | refine List.Sublist.append (List.Sublist.refl _) ?_ | exact List.sublist_append_left _ _ | refine List.Sublist.trans ?_ (List.sublist_append_right _ _))), (by repeat (first | exact .nil | refine .cons rfl ?_)), ⟨k + 1, p2, es2, c2, by omega, hst2, rfl, rfl, rfl⟩⟩
    · have hst1 := st_A2 (by omega) hst
      refine c_exit ?_
      refine tq_e ?_
      refine tq_e ?_
      refine bq_e ?_
      refine tq_n ?_
      refine c_seq ?_
      refine c_seq ?_
      refine c_region ?_
      refine x_fa rfl (by (conv => lhs; whnf); first | done | rfl) ?_
      refine x_ldo rfl (by (conv => lhs; whnf); first | done | rfl) (by first | exact HasC.out | exact PutC.out | repeat (first | exact .here | apply Has.there | apply Put.there | apply Has.app | apply Put.app)) (by (conv => lhs; whnf); first | done | rfl) ?_
      refine x_len rfl (by (conv => lhs; whnf); first | done | rfl) ?_
      refine w_mov rfl (by (conv => lhs; whnf); first | done | rfl) ?_
      refine w_nil ?_
      refine tq_n ?_
      refine c_block ?_
      refine c_loop_ov [49, 50, 51, 10, 52, 53, 54, 55, 56, 57, 58, 59, 6, 60, 61, 62, 63, 64, 65, 66, 12, 67, 68, 69, 70, 71, 72, 73, 74, 75, 48] (fun m s L => ∃ (k : Nat) (p : Bool) (es1 : Array MapEntry) (c1 : Nat) (es2 : Array MapEntry) (c2 : Nat), k ≤ t.lo.length ∧ St (A2 t k) p es1 (nn (t.sp :: t.da ++ (t.lo.take k).map Lg.ph)) es2 (nn ((t.lo.take k).flatMap Lg.pg)) ∧ m = t.lo.length - k ∧ s = [(6, .bool p), (48, .int .i64 k)] ∧ L = [(b19, .map es2 c2), (b18, .map es1 c1), (b1, B 43 (cT t Ad cd Ah ch Al cl))]) (t.lo.length) [(6, .bool p), (48, .int .i64 (0 : Nat))] (by repeat (first | exact .nil | refine .cons rfl ?_)) (by first | exact SubL.out | repeat (first | exact List.Sublist.refl _ | exact List.nil_sublist _ | refine .cons_cons _ ?_ | refine .cons _ ?_ | refine List.Sublist.append (List.Sublist.refl _) ?_ | exact List.sublist_append_left _ _ | refine List.Sublist.trans ?_ (List.sublist_append_right _ _))) (⟨0, p, es1, c1, #[], 0, by omega, hst1, by omega, rfl, rfl⟩) ?_
      rintro mI sI LI gL1 ⟨k, p, es1, c1, es2, c2, hk, hst, rfl, rfl, rfl⟩
      refine c_seq ?_
      refine c_region ?_
      refine w_lss rfl (by (conv => lhs; whnf); first | done | rfl) (by (conv => lhs; whnf); first | done | rfl) ?_
      refine w_nil ?_
      refine tq_n ?_
      refine c_seq ?_
      refine c_cond_d (by (conv => lhs; whnf); first | done | rfl) (fun hc49 => ?_) (fun hc49 => ?_)
      · have hlt : k < t.lo.length := by omega
        obtain ⟨Ap, cp, hpc, hpl, hpA, hpR, hpI, hph, hpv⟩ := hlR k _ (getN hlt)
        refine c_skip ?_
        refine tq_n ?_
        refine c_seq ?_
        refine c_block ?_
        refine c_seq ?_
        refine c_region ?_
        refine x_ixA rfl (by (conv => lhs; whnf); first | done | rfl) (by (conv => lhs; whnf); first | done | rfl) (hlA (ne_of_lt hlt)) (by omega) (by omega) ?_
        refine x_lda (vs := [.int .i64 (t.lo[k]'hlt).ph, .slice Ap (t.lo[k]'hlt).pg.length cp]) rfl (by (conv => lhs; whnf); first | done | rfl) (rfl) (rd2 hph hpv) ?_
        refine x_al rfl ?_
        intro b10
        refine x_stw rfl (by (conv => lhs; whnf); first | done | rfl) (by (conv => lhs; whnf); first | done | rfl) rfl rfl (by first | exact HasC.out | exact PutC.out | repeat (first | exact .here | apply Has.there | apply Put.there | apply Has.app | apply Put.app)) rfl ?_
        refine w_nil ?_
        refine tq_n ?_
        refine c_mid_ov [52, 53, 54, 55, 56, 57, 58, 59, 6] (fun s L => ∃ (p : Bool) (es1 : Array MapEntry) (c1 : Nat), s = [(6, .bool p)] ∧ L = [(b10, B 102 [.int .i64 (t.lo[k]'hlt).ph, .slice Ap (t.lo[k]'hlt).pg.length cp]), (b19, .map es2 c2), (b18, .map es1 c1), (b1, B 43 (cT t Ad cd Ah ch Al cl))] ∧ St (A3 t k 0 (t.lo[k]'hlt)) p es1 (nn (t.sp :: t.da ++ (t.lo.take (k + 1)).map Lg.ph)) es2 (nn ((t.lo.take k).flatMap Lg.pg ++ (t.lo[k]'hlt).pg.take 0))) ?_ ?_
        · refine c_region ?_
          all_goals (refine w_mov rfl (by (conv => lhs; whnf); first | done | rfl) ?_)
          all_goals (refine w_mov rfl (by (conv => lhs; whnf); first | done | rfl) ?_)
          all_goals (first | refine w_lit true rfl rfl rfl ?_ | refine w_lit false rfl rfl rfl ?_ | refine w_cases_od rfl rfl rfl (fun hg => ?_) (fun hg => ?_) | refine w_cases_o rfl rfl rfl (fun hg => ?_) (fun hg => ?_) | skip)
          all_goals (first | refine w_skip rfl ?_ | (refine w_mov rfl (by (conv => lhs; whnf); first | done | rfl) ?_))
          all_goals (first | refine w_skip rfl ?_ | (refine w_mov rfl (by (conv => lhs; whnf); first | done | rfl) ?_))
          all_goals (first | refine w_skip rfl ?_ | (refine x_fa rfl (by (conv => lhs; whnf); first | done | rfl) ?_))
          all_goals (first | refine w_skip rfl ?_ | (refine x_ldo rfl (by (conv => lhs; whnf); first | done | rfl) (by first | exact HasC.out | exact PutC.out | repeat (first | exact .here | apply Has.there | apply Put.there | apply Has.app | apply Put.app)) (by (conv => lhs; whnf); first | done | rfl) ?_))
          all_goals (first | refine w_skip rfl ?_ | (refine x_call (use_g (Lf := fun o => [(b10, B 102 [.int .i64 (t.lo[k]'hlt).ph, .slice Ap (t.lo[k]'hlt).pg.length cp]), (b19, .map es2 c2), (b18, o), (b1, B 43 (cT t Ad cd Ah ch Al cl))]) (fun _ => (by first | exact HasC.out | exact PutC.out | repeat (first | exact .here | apply Has.there | apply Put.there | apply Has.app | apply Put.app))) (hst.sm (by assumption)).1) rfl rfl rfl ?_; rintro _ _ ⟨rfl, es3, clk3, rfl, hsm3⟩))
          all_goals (first | refine w_pick_t rfl rfl (by (conv => lhs; whnf); first | done | rfl) ?_ | refine w_pick_f rfl rfl (by (conv => lhs; whnf); first | done | rfl) ?_)
          all_goals (refine w_asg rfl (by (conv => lhs; whnf); first | done | rfl) ?_)
          all_goals (refine w_nil ?_)
          all_goals (refine tq_n ?_)
          all_goals (exact ⟨(by first | ((repeat (first | with_reducible exact Ag.refl | with_reducible exact Ag.ov | (with_reducible refine Ag.upd ?_ ?_; exact rfl) | with_reducible refine Ag.putn ?_ | (with_reducible refine Ag.ovs ?_ ?_; exact rfl))); done) | (repeat (first | exact Ag.refl | exact Ag.ov | (refine Ag.upd ?_ ?_; exact rfl) | refine Ag.putn ?_ | (refine Ag.ovs ?_ ?_; exact rfl)))), [(6, _)], _, (by first | exact SubL.out | repeat (first | exact List.Sublist.refl _ | exact List.nil_sublist _ | refine .cons_cons _ ?_ | refine .cons _ ?_ | refine List.Sublist.append (List.Sublist.refl _) ?_ | exact List.sublist_append_left _ _ | refine List.Sublist.trans ?_ (List.sublist_append_right _ _))), (by repeat (first | exact .nil | refine .cons rfl ?_)), ⟨_, _, _, rfl, rfl, by first | exact hst.no hg (fun h => ((A3_zero hlt).1 h).1) | exact st_log hlt hst (by assumption) hsm3⟩⟩)
        · rintro sM LM gM ⟨p3, es3, c3, rfl, rfl, hst3⟩
          refine c_seq ?_
          refine c_region ?_
          refine x_fa rfl (by (conv => lhs; whnf); first | done | rfl) ?_
          refine x_ldo rfl (by (conv => lhs; whnf); first | done | rfl) (by first | exact HasC.out | exact PutC.out | repeat (first | exact .here | apply Has.there | apply Put.there | apply Has.app | apply Put.app)) (by (conv => lhs; whnf); first | done | rfl) ?_
          refine x_len rfl (by (conv => lhs; whnf); first | done | rfl) ?_
          refine w_mov rfl (by (conv => lhs; whnf); first | done | rfl) ?_
          refine w_nil ?_
          refine tq_n ?_
          refine c_block ?_
          refine c_loop_ov [64, 65, 66, 12, 67, 68, 69, 70, 71, 72, 73, 6, 74, 63] (fun m s L => ∃ (j : Nat) (p : Bool) (es2 : Array MapEntry) (c2 : Nat), j ≤ (t.lo[k]'hlt).pg.length ∧ St (A3 t k j (t.lo[k]'hlt)) p es3 (nn (t.sp :: t.da ++ (t.lo.take (k + 1)).map Lg.ph)) es2 (nn ((t.lo.take k).flatMap Lg.pg ++ (t.lo[k]'hlt).pg.take j)) ∧ m = (t.lo[k]'hlt).pg.length - j ∧ s = [(6, .bool p), (63, .int .i64 j)] ∧ L = [(b10, B 102 [.int .i64 (t.lo[k]'hlt).ph, .slice Ap (t.lo[k]'hlt).pg.length cp]), (b19, .map es2 c2), (b18, .map es3 c3), (b1, B 43 (cT t Ad cd Ah ch Al cl))]) ((t.lo[k]'hlt).pg.length) [(6, .bool p3), (63, .int .i64 (0 : Nat))] (by repeat (first | exact .nil | refine .cons rfl ?_)) (by first | exact SubL.out | repeat (first | exact List.Sublist.refl _ | exact List.nil_sublist _ | refine .cons_cons _ ?_ | refine .cons _ ?_ | refine List.Sublist.append (List.Sublist.refl _) ?_ | exact List.sublist_append_left _ _ | refine List.Sublist.trans ?_ (List.sublist_append_right _ _))) (⟨0, p3, es2, c2, by omega, hst3, by omega, rfl, rfl⟩) ?_
          rintro mI sI LI gL2 ⟨j, p4, es4, c4, hj, hst4, rfl, rfl, rfl⟩
          refine c_seq ?_
          refine c_region ?_
          refine w_lss rfl (by (conv => lhs; whnf); first | done | rfl) (by (conv => lhs; whnf); first | done | rfl) ?_
          refine w_nil ?_
          refine tq_n ?_
          refine c_seq ?_
          refine c_cond_d (by (conv => lhs; whnf); first | done | rfl) (fun hc64 => ?_) (fun hc64 => ?_)
          · have hjlt : j < (t.lo[k]'hlt).pg.length := by omega
            refine c_skip ?_
            refine tq_n ?_
            refine c_mid_ov [65, 66, 12, 67, 68, 69, 70, 71, 72, 73, 6] (fun s L => ∃ (p : Bool) (es2 : Array MapEntry) (c2 : Nat), s = [(6, .bool p)] ∧ L = [(b10, B 102 [.int .i64 (t.lo[k]'hlt).ph, .slice Ap (t.lo[k]'hlt).pg.length cp]), (b19, .map es2 c2), (b18, .map es3 c3), (b1, B 43 (cT t Ad cd Ah ch Al cl))] ∧ St (A3 t k (j + 1) (t.lo[k]'hlt)) p es3 (nn (t.sp :: t.da ++ (t.lo.take (k + 1)).map Lg.ph)) es2 (nn ((t.lo.take k).flatMap Lg.pg ++ (t.lo[k]'hlt).pg.take (j + 1)))) ?_ ?_
            · refine c_block ?_
              refine c_seq ?_
              refine c_region ?_
              refine x_ixA rfl (by (conv => lhs; whnf); first | done | rfl) (by (conv => lhs; whnf); first | done | rfl) (hpA (ne_of_lt hjlt)) (by omega) (by omega) ?_
              refine x_ld rfl (by (conv => lhs; whnf); first | done | rfl) (rdI (j := (j : Int)) hpR (getN hjlt)) ?_
              refine w_asg rfl (by (conv => lhs; whnf); first | done | rfl) ?_
              refine w_nil ?_
              refine tq_n ?_
              refine c_region ?_
              all_goals (refine w_mov rfl (by (conv => lhs; whnf); first | done | rfl) ?_)
              all_goals (refine w_mov rfl (by (conv => lhs; whnf); first | done | rfl) ?_)
              all_goals (first | refine w_lit true rfl rfl rfl ?_ | refine w_lit false rfl rfl rfl ?_ | refine w_cases_od rfl rfl rfl (fun hg => ?_) (fun hg => ?_) | refine w_cases_o rfl rfl rfl (fun hg => ?_) (fun hg => ?_) | skip)
              all_goals (first | refine w_skip rfl ?_ | (refine w_mov rfl (by (conv => lhs; whnf); first | done | rfl) ?_))
              all_goals (first | refine w_skip rfl ?_ | (refine w_mov rfl (by (conv => lhs; whnf); first | done | rfl) ?_))
              all_goals (first | refine w_skip rfl ?_ | (refine w_mov rfl (by (conv => lhs; whnf); first | done | rfl) ?_))
              all_goals (first | refine w_skip rfl ?_ | (refine x_call (use_g (Lf := fun o => [(b10, B 102 [.int .i64 (t.lo[k]'hlt).ph, .slice Ap (t.lo[k]'hlt).pg.length cp]), (b19, o), (b18, .map es3 c3), (b1, B 43 (cT t Ad cd Ah ch Al cl))]) (fun _ => (by first | exact HasC.out | exact PutC.out | repeat (first | exact .here | apply Has.there | apply Put.there | apply Has.app | apply Put.app))) (hst4.sm (by assumption)).2) rfl rfl rfl ?_; rintro _ _ ⟨rfl, es5, clk5, rfl, hsm5⟩))
              all_goals (first | refine w_pick_t rfl rfl (by (conv => lhs; whnf); first | done | rfl) ?_ | refine w_pick_f rfl rfl (by (conv => lhs; whnf); first | done | rfl) ?_)
              all_goals (refine w_asg rfl (by (conv => lhs; whnf); first | done | rfl) ?_)
              all_goals (refine w_nil ?_)
              all_goals (refine bq_n ?_)
              all_goals (refine tq_n ?_)
              all_goals (exact ⟨(by first | ((repeat (first | with_reducible exact Ag.refl | with_reducible exact Ag.ov | (with_reducible refine Ag.upd ?_ ?_; exact rfl) | with_reducible refine Ag.putn ?_ | (with_reducible refine Ag.ovs ?_ ?_; exact rfl))); done) | (repeat (first | exact Ag.refl | exact Ag.ov | (refine Ag.upd ?_ ?_; exact rfl) | refine Ag.putn ?_ | (refine Ag.ovs ?_ ?_; exact rfl)))), [(6, _)], _, (by first | exact SubL.out | repeat (first | exact List.Sublist.refl _ | exact List.nil_sublist _ | refine .cons_cons _ ?_ | refine .cons _ ?_ | refine List.Sublist.append (List.Sublist.refl _) ?_ | exact List.sublist_append_left _ _ | refine List.Sublist.trans ?_ (List.sublist_append_right _ _))), (by repeat (first | exact .nil | refine .cons rfl ?_)), ⟨_, _, _, rfl, rfl, by first | exact hst4.no hg (fun h => ((A3_step hjlt).1 h).1) | (rw [take_succ' hjlt, ← List.append_assoc]; exact hst4.two (by assumption) hsm5 (A3_step hjlt))⟩⟩)
            · rintro sM LM gM ⟨p5, es5, c5, rfl, rfl, hst5⟩
              refine c_region ?_
              refine w_add rfl (by (conv => lhs; whnf); first | done | rfl) (by (conv => lhs; whnf); first | done | rfl) (by omega) ?_
              refine w_mov rfl (by (conv => lhs; whnf); first | done | rfl) ?_
              refine w_nil ?_
              refine tq_n ?_
              exact ⟨(by first | ((repeat (first | with_reducible exact Ag.refl | with_reducible exact Ag.ov | (with_reducible refine Ag.upd ?_ ?_; exact rfl) | with_reducible refine Ag.putn ?_ | (with_reducible refine Ag.ovs ?_ ?_; exact rfl))); done) | (repeat (first | exact Ag.refl | exact Ag.ov | (refine Ag.upd ?_ ?_; exact rfl) | refine Ag.putn ?_ | (refine Ag.ovs ?_ ?_; exact rfl)))), (t.lo[k]'hlt).pg.length - (j + 1), [(6, .bool p5), (63, .int .i64 ((j + 1 : Nat) : Int))], _, by omega, (by first | exact SubL.out | repeat (first | exact List.Sublist.refl _ | exact List.nil_sublist _ | refine .cons_cons _ ?_ | refine .cons _ ?_ | refine List.Sublist.append (List.Sublist.refl _) ?_ | exact List.sublist_append_left _ _ | refine List.Sublist.trans ?_ (List.sublist_append_right _ _))), (by repeat (first | exact .nil | refine .cons rfl ?_)), ⟨j + 1, p5, es5, c5, by omega, hst5, rfl, rfl, rfl⟩⟩
          · refine c_exit ?_
            refine tq_e ?_
            refine tq_e ?_
            refine bq_e ?_
            refine bq_n ?_
            refine tq_n ?_
            refine c_region ?_
            refine w_add rfl (by (conv => lhs; whnf); first | done | rfl) (by (conv => lhs; whnf); first | done | rfl) (by omega) ?_
            refine w_mov rfl (by (conv => lhs; whnf); first | done | rfl) ?_
            refine w_nil ?_
            refine tq_n ?_
            exact ⟨(by first | ((repeat (first | with_reducible exact Ag.refl | with_reducible exact Ag.ov | (with_reducible refine Ag.upd ?_ ?_; exact rfl) | with_reducible refine Ag.putn ?_ | (with_reducible refine Ag.ovs ?_ ?_; exact rfl))); done) | (repeat (first | exact Ag.refl | exact Ag.ov | (refine Ag.upd ?_ ?_; exact rfl) | refine Ag.putn ?_ | (refine Ag.ovs ?_ ?_; exact rfl)))), t.lo.length - (k + 1), [(6, .bool p4), (48, .int .i64 ((k + 1 : Nat) : Int))], _, by omega, (by first | exact SubL.out | repeat (first | exact List.Sublist.refl _ | exact List.nil_sublist _ | refine .cons_cons _ ?_ | refine .cons _ ?_ | refine List.Sublist.append (List.Sublist.refl _) ?_ | exact List.sublist_append_left _ _ | refine List.Sublist.trans ?_ (List.sublist_append_right _ _))), (by repeat (first | exact .nil | refine .cons rfl ?_)), ⟨k + 1, p4, es3, c3, es4, c4, by omega, st_A3 hlt (by omega) hst4, rfl, rfl, rfl⟩⟩
      · have hkk : k = t.lo.length := (by omega)
        have hp4 : p = true ↔ A4 t 0 := (by rw [hst.iff, hkk]; exact ⟨fun h => ⟨h, fun i hi => by omega⟩, fun h => h.1⟩)
        refine c_exit ?_
        refine tq_e ?_
        refine tq_e ?_
        refine bq_e ?_
        refine tq_n ?_
        refine c_seq ?_
        refine c_seq ?_
        refine c_region ?_
        refine x_fa rfl (by (conv => lhs; whnf); first | done | rfl) ?_
        refine x_ldo rfl (by (conv => lhs; whnf); first | done | rfl) (by first | exact HasC.out | exact PutC.out | repeat (first | exact .here | apply Has.there | apply Put.there | apply Has.app | apply Put.app)) (by (conv => lhs; whnf); first | done | rfl) ?_
        refine x_len rfl (by (conv => lhs; whnf); first | done | rfl) ?_
        refine w_mov rfl (by (conv => lhs; whnf); first | done | rfl) ?_
        refine w_nil ?_
        refine tq_n ?_
        refine c_block ?_
        refine c_loop_ov [80, 81, 82, 83, 13, 14, 84, 85, 86, 87, 88, 89, 90, 91, 92, 93, 94, 95, 96, 97, 98, 99, 6, 100, 79] (fun m s L => ∃ (i : Nat) (p : Bool), i ≤ t.ha.length ∧ (p = true ↔ A4 t i) ∧ m = t.ha.length - i ∧ s = [(6, .bool p), (79, .int .i64 i)] ∧ L = [(b1, B 43 (cT t Ad cd Ah ch Al cl))]) (t.ha.length) [(6, .bool p), (79, .int .i64 (0 : Nat))] (by repeat (first | exact .nil | refine .cons rfl ?_)) (by first | exact SubL.out | repeat (first | exact List.Sublist.refl _ | exact List.nil_sublist _ | refine .cons_cons _ ?_ | refine .cons _ ?_ | refine List.Sublist.append (List.Sublist.refl _) ?_ | exact List.sublist_append_left _ _ | refine List.Sublist.trans ?_ (List.sublist_append_right _ _))) (⟨0, p, by omega, hp4, by omega, rfl, rfl⟩) ?_
        rintro mI sI LI gL3 ⟨i, p6, hi, hp6, rfl, rfl, rfl⟩
        refine c_seq ?_
        refine c_region ?_
        refine w_lss rfl (by (conv => lhs; whnf); first | done | rfl) (by (conv => lhs; whnf); first | done | rfl) ?_
        refine w_nil ?_
        refine tq_n ?_
        refine c_seq ?_
        refine c_cond_d (by (conv => lhs; whnf); first | done | rfl) (fun hc80 => ?_) (fun hc80 => ?_)
        · have hilt : i < t.ha.length := (by omega)
          have hP : 4 ≤ t.P := hLi.1.1.1.1
          have hdlt := div_lt hLi hilt
          have hdp := div_ge hLi (i := i)
          refine c_skip ?_
          refine tq_n ?_
          refine c_seq ?_
          refine c_block ?_
          refine c_seq ?_
          refine c_region ?_
          refine w_mov rfl (by (conv => lhs; whnf); first | done | rfl) ?_
          refine x_ixA rfl (by (conv => lhs; whnf); first | done | rfl) (by (conv => lhs; whnf); first | done | rfl) (hhA (ne_of_lt hilt)) (by omega) (by omega) ?_
          refine x_ld rfl (by (conv => lhs; whnf); first | done | rfl) (rdB (j := (i : Int)) hhR (getN hilt)) ?_
          refine w_asg rfl (by (conv => lhs; whnf); first | done | rfl) ?_
          refine w_asg rfl (by (conv => lhs; whnf); first | done | rfl) ?_
          refine w_nil ?_
          refine tq_n ?_
          refine c_draw_j mixed (by kernel_rfl) [84, 85, 86, 87, 88, 89, 90, 91, 92, 93, 94, 95, 96, 97, 98, 99, 6] 6 (.bool (decide (p6 = true ∧ (t.ha[i]'hilt = false ∨ 0 ≤ t.da[((i : Int) / t.P).toNat]'hdlt)))) ?_ (fun g24 => ?_)
          · all_goals (refine w_mov rfl (by (conv => lhs; whnf); first | done | rfl) ?_)
            all_goals (refine w_mov rfl (by (conv => lhs; whnf); first | done | rfl) ?_)
            all_goals (first | refine w_lit true rfl rfl rfl ?_ | refine w_lit false rfl rfl rfl ?_ | refine w_cases_od rfl rfl rfl (fun hg => ?_) (fun hg => ?_) | refine w_cases_o rfl rfl rfl (fun hg => ?_) (fun hg => ?_) | skip)
            all_goals (first | refine w_skip rfl ?_ | (refine w_mov rfl (by (conv => lhs; whnf); first | done | rfl) ?_))
            all_goals (first | refine w_skip rfl ?_ | (refine w_not rfl (by (conv => lhs; whnf); first | done | rfl) ?_))
            all_goals (first | refine w_skip rfl ?_ | (refine w_mov rfl (by (conv => lhs; whnf); first | done | rfl) ?_))
            all_goals (first | refine w_lit true rfl rfl rfl ?_ | refine w_lit false rfl rfl rfl ?_ | refine w_cases_od rfl rfl rfl (fun hg => ?_) (fun hg => ?_) | refine w_cases_o rfl rfl rfl (fun hg => ?_) (fun hg => ?_) | skip)
            all_goals (first | refine w_skip rfl ?_ | (refine x_fa rfl (by (conv => lhs; whnf); first | done | rfl) ?_))
            all_goals (first | refine w_skip rfl ?_ | (refine x_ldo rfl (by (conv => lhs; whnf); first | done | rfl) (by first | exact HasC.out | exact PutC.out | repeat (first | exact .here | apply Has.there | apply Put.there | apply Has.app | apply Put.app)) (by (conv => lhs; whnf); first | done | rfl) ?_))
            all_goals (first | refine w_skip rfl ?_ | (refine w_mov rfl (by (conv => lhs; whnf); first | done | rfl) ?_))
            all_goals (first | refine w_skip rfl ?_ | (refine x_fa rfl (by (conv => lhs; whnf); first | done | rfl) ?_))
            all_goals (first | refine w_skip rfl ?_ | (refine x_ldo rfl (by (conv => lhs; whnf); first | done | rfl) (by first | exact HasC.out | exact PutC.out | repeat (first | exact .here | apply Has.there | apply Put.there | apply Has.app | apply Put.app)) (by (conv => lhs; whnf); first | done | rfl) ?_))
            all_goals (first | refine w_skip rfl ?_ | (refine w_quo rfl (by (conv => lhs; whnf); first | done | rfl) (by (conv => lhs; whnf); first | done | rfl) (by omega) (by omega) (by omega) ?_))
            all_goals (first | refine w_skip rfl ?_ | (refine x_ixA rfl (by (conv => lhs; whnf); first | done | rfl) (by (conv => lhs; whnf); first | done | rfl) (hdA (ne_of_lt hdlt)) (hdp) (by omega) ?_))
            all_goals (first | refine w_skip rfl ?_ | (refine x_ld rfl (by (conv => lhs; whnf); first | done | rfl) (rdI (j := (i : Int) / t.P) hdR (getN hdlt)) ?_))
            all_goals (first | refine w_skip rfl ?_ | (refine w_geq rfl (by (conv => lhs; whnf); first | done | rfl) (by (conv => lhs; whnf); first | done | rfl) ?_))
            all_goals (first | refine w_skip rfl ?_ | (first | refine w_pick_t rfl rfl (by (conv => lhs; whnf); first | done | rfl) ?_ | refine w_pick_f rfl rfl (by (conv => lhs; whnf); first | done | rfl) ?_))
            all_goals (first | refine w_pick_t rfl rfl (by (conv => lhs; whnf); first | done | rfl) ?_ | refine w_pick_f rfl rfl (by (conv => lhs; whnf); first | done | rfl) ?_)
            all_goals (refine w_asg rfl (by (conv => lhs; whnf); first | done | rfl) ?_)
            all_goals (refine w_nil ?_)
            all_goals (refine jn (by first | exact (Ag.upd rfl (Ag.upd rfl (Ag.upd rfl (Ag.upd rfl (Ag.upd rfl (Ag.upd rfl (Ag.upd rfl (Ag.upd rfl (Ag.upd rfl (Ag.upd rfl (Ag.upd rfl (Ag.upd rfl (Ag.upd rfl (Ag.upd rfl (Ag.upd rfl (Ag.upd rfl (Ag.upd rfl Ag.refl))))))))))))))))) | exact (by first | ((repeat (first | with_reducible exact Ag.refl | with_reducible exact Ag.ov | (with_reducible refine Ag.upd ?_ ?_; exact rfl) | with_reducible refine Ag.putn ?_ | (with_reducible refine Ag.ovs ?_ ?_; exact rfl))); done) | (repeat (first | exact Ag.refl | exact Ag.ov | (refine Ag.upd ?_ ?_; exact rfl) | refine Ag.putn ?_ | (refine Ag.ovs ?_ ?_; exact rfl))))) (by (conv => lhs; whnf); first | done | rfl) ?_)
            all_goals (exact congrArg Value.bool (by first | rfl | (refine decide_eq_decide.2 ?_; omega) | (refine (decide_eq_true ?_).symm; omega) | (refine (decide_eq_false ?_).symm; omega) | simp_all))
          refine bq_n ?_
          refine tq_n ?_
          refine c_region ?_
          refine w_add rfl (by (conv => lhs; whnf); first | done | rfl) (by (conv => lhs; whnf); first | done | rfl) (by omega) ?_
          refine w_mov rfl (by (conv => lhs; whnf); first | done | rfl) ?_
          refine w_nil ?_
          refine tq_n ?_
          exact ⟨(by first | ((repeat (first | with_reducible exact Ag.refl | with_reducible exact Ag.ov | (with_reducible refine Ag.upd ?_ ?_; exact rfl) | with_reducible refine Ag.putn ?_ | (with_reducible refine Ag.ovs ?_ ?_; exact rfl))); done) | (repeat (first | exact Ag.refl | exact Ag.ov | (refine Ag.upd ?_ ?_; exact rfl) | refine Ag.putn ?_ | (refine Ag.ovs ?_ ?_; exact rfl)))), t.ha.length - (i + 1), [(6, _), (79, .int .i64 ((i + 1 : Nat) : Int))], _, by omega, (by first | exact SubL.out | repeat (first | exact List.Sublist.refl _ | exact List.nil_sublist _ | refine .cons_cons _ ?_ | refine .cons _ ?_ | refine List.Sublist.append (List.Sublist.refl _) ?_ | exact List.sublist_append_left _ _ | refine List.Sublist.trans ?_ (List.sublist_append_right _ _))), (by repeat (first | exact .nil | refine .cons rfl ?_)), ⟨i + 1, _, by omega, by rw [decide_eq_true_eq]; exact A4_step hilt hdlt hp6, rfl, rfl, rfl⟩⟩
        · have hii : i = t.ha.length := (by omega)
          refine c_exit ?_
          refine tq_e ?_
          refine tq_e ?_
          refine bq_e ?_
          refine tq_n ?_
          refine c_seq ?_
          refine c_seq ?_
          refine c_region ?_
          refine w_mov rfl (by (conv => lhs; whnf); first | done | rfl) ?_
          refine w_not rfl (by (conv => lhs; whnf); first | done | rfl) ?_
          refine w_nil ?_
          refine tq_n ?_
          refine c_cond (by (conv => lhs; whnf); first | done | rfl) (fun hc102 => ?_) (fun hc102 => ?_)
          · refine c_seq ?_
            refine c_region ?_
            refine w_asg rfl (by (conv => lhs; whnf); first | done | rfl) ?_
            refine w_nil ?_
            refine tq_n ?_
            refine c_ret ?_
            refine tq_r ?_
            exact rq_r (ra_t (by (conv => lhs; whnf); first | done | rfl) .nil) (List.nil_sublist _) (⟨by rw [if_neg (fun hm => (by have := hp6.2 (hii ▸ (may_iff hLi).1 hm); rw [this] at hc102; cases hc102))]; rfl, rfl⟩)
          · refine c_skip ?_
            refine tq_n ?_
            refine c_seq ?_
            refine c_region ?_
            refine w_asg rfl (by (conv => lhs; whnf); first | done | rfl) ?_
            refine w_nil ?_
            refine tq_n ?_
            refine c_ret ?_
            exact rq_r (ra_t (by (conv => lhs; whnf); first | done | rfl) .nil) (List.nil_sublist _) (⟨by rw [if_pos ((may_iff hLi).2 (hii ▸ hp6.1 (by simpa using hc102)))]; rfl, rfl⟩)
end
end Go.Proofs.Ytnmhhelcaibdoaa.Pl
