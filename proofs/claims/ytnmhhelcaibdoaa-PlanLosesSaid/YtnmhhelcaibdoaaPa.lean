/- Contracts of Go's library functions on slices of ints, at this program. -/
import Derived.Test.YtnmhhelcaibdoaaSlT
namespace Go.Proofs.Ytnmhhelcaibdoaa.Pl
open Go Go.RowKit Sl
set_option linter.unusedVariables false
set_option linter.unusedSimpArgs false
abbrev IL (w0 : World) (L : Own) (v : Value) (xs : List Int) : Prop := SlR w0 L encI v xs
abbrev BL (w0 : World) (L : Own) (v : Value) (xs : List Bool) : Prop := SlR w0 L encB v xs
section
variable {w0 : World} {L : Own}
theorem _root_.Go.Proofs.Ytnmhhelcaibdoaa.Sl.Mem.trans_nil' {w0 w w' : World} {L : Own} (h : Mem w0 w L) (h' : Mem w w' []) : Mem w0 w' L := h.trans h'
theorem inRange_g (n a b : Int) : Gives Try.prog w0 L 50 [.int .i64 n, .int .i64 a, .int .i64 b] (fun v L' => v = .bool (decide (a ≤ n ∧ n ≤ b)) ∧ L' = L) := by
  refine enterP Try.func50 rfl Try.ntmps50 Try.results50 (Nat.le_of_ble_eq_true rfl) fun w hM => ?_
  refine c_seq ?_
  refine c_region ?_
  refine w_asg rfl (by (conv => lhs; whnf); first | done | rfl) ?_
  refine w_nil ?_
  refine tq_n ?_
  refine c_seq ?_
  refine c_region_j [7, 8, 9, 10, 11, 12, 13, 14, 6] 6 (.bool (decide (a ≤ n ∧ n ≤ b))) ?_ (fun g1 => ?_)
  · all_goals (refine w_mov rfl (by (conv => lhs; whnf); first | done | rfl) ?_)
    all_goals (refine w_mov rfl (by (conv => lhs; whnf); first | done | rfl) ?_)
    all_goals (refine w_geq rfl (by (conv => lhs; whnf); first | done | rfl) (by (conv => lhs; whnf); first | done | rfl) ?_)
    all_goals (refine w_mov rfl (by (conv => lhs; whnf); first | done | rfl) ?_)
    all_goals (first | refine w_lit true rfl rfl rfl ?_ | refine w_lit false rfl rfl rfl ?_ | refine w_cases_od rfl rfl rfl (fun hg => ?_) (fun hg => ?_) | refine w_cases_o rfl rfl rfl (fun hg => ?_) (fun hg => ?_) | skip)
    all_goals (first | refine w_skip rfl ?_ | (refine w_mov rfl (by (conv => lhs; whnf); first | done | rfl) ?_))
    all_goals (first | refine w_skip rfl ?_ | (refine w_mov rfl (by (conv => lhs; whnf); first | done | rfl) ?_))
    all_goals (first | refine w_skip rfl ?_ | (refine w_leq rfl (by (conv => lhs; whnf); first | done | rfl) (by (conv => lhs; whnf); first | done | rfl) ?_))
    all_goals (first | refine w_pick_t rfl rfl (by (conv => lhs; whnf); first | done | rfl) ?_ | refine w_pick_f rfl rfl (by (conv => lhs; whnf); first | done | rfl) ?_)
    all_goals (refine w_asg rfl (by (conv => lhs; whnf); first | done | rfl) ?_)
    all_goals (refine w_nil ?_)
    all_goals (refine jn (by first | exact (Ag.upd rfl (Ag.upd rfl (Ag.upd rfl (Ag.upd rfl (Ag.upd rfl (Ag.upd rfl (Ag.upd rfl (Ag.upd rfl (Ag.upd rfl Ag.refl))))))))) | exact (by first | ((repeat (first | with_reducible exact Ag.refl | with_reducible exact Ag.ov | (with_reducible refine Ag.upd ?_ ?_; exact rfl) | with_reducible refine Ag.putn ?_ | (with_reducible refine Ag.ovs ?_ ?_; exact rfl))); done) | (repeat (first | exact Ag.refl | exact Ag.ov | (refine Ag.upd ?_ ?_; exact rfl) | refine Ag.putn ?_ | (refine Ag.ovs ?_ ?_; exact rfl))))) (by (conv => lhs; whnf); first | done | rfl) ?_)
    all_goals (exact congrArg Value.bool (by first | rfl | (refine decide_eq_decide.2 ?_; omega) | (refine (decide_eq_true ?_).symm; omega) | (refine (decide_eq_false ?_).symm; omega) | simp_all))
  refine tq_n ?_
  refine c_ret ?_
  exact rq_r (ra_t (by (conv => lhs; whnf); first | done | rfl) .nil) (List.nil_sublist _) (⟨rfl, rfl⟩)
def ixOf (xs : List Int) (x : Int) : Int := if x ∈ xs then (xs.idxOf x : Int) else -1
theorem ixOf_at {xs : List Int} {x : Int} {k : Nat} (hk : k < xs.length) (hn : x ∉ xs.take k) (h : x = xs[k]'hk) : ixOf xs x = k := by
  unfold ixOf
  have hm : x ∈ xs := by rw [h]; exact List.getElem_mem hk
  rw [if_pos hm]
  have e : xs = xs.take k ++ xs.drop k := (List.take_append_drop k xs).symm
  have hd : xs.drop k = x :: xs.drop (k + 1) := by rw [h]; exact List.drop_eq_getElem_cons hk
  rw [e, hd, List.idxOf_append]
  rw [if_neg hn]
  simp [Nat.min_eq_left (Nat.le_of_lt hk)]
theorem index_g {v : Value} {xs : List Int} {x : Int} (h : IL w0 L v xs) : Gives Try.prog w0 L 107 [v, .int .i64 x] (fun v' L' => v' = .int .i64 (ixOf xs x) ∧ L' = L) := by
  refine enterP Try.func107 rfl Try.ntmps107 Try.results107 (Nat.le_of_ble_eq_true rfl) fun w hM => ?_
  obtain ⟨A, cap, rfl, hcap, hlen, hA, hR⟩ := (h.at hM).ex
  clear h hM
  refine c_seq ?_
  refine c_region ?_
  refine w_asg rfl (by (conv => lhs; whnf); first | done | rfl) ?_
  refine w_nil ?_
  refine tq_n ?_
  refine c_seq ?_
  refine c_seq ?_
  refine c_region ?_
  refine w_mov rfl (by (conv => lhs; whnf); first | done | rfl) ?_
  refine x_len rfl (by (conv => lhs; whnf); first | done | rfl) ?_
  refine w_mov rfl (by (conv => lhs; whnf); first | done | rfl) ?_
  refine w_nil ?_
  refine tq_n ?_
  refine c_block ?_
  refine c_loop_ov [9, 10, 5, 11, 12, 13, 14, 15, 16, 17, 4, 18, 8] (fun m s L => ∃ k : Nat, k ≤ xs.length ∧ x ∉ xs.take k ∧ m = xs.length - k ∧ s = [(8, .int .i64 k)] ∧ L = []) (xs.length) [(8, .int .i64 (0 : Nat))] (by repeat (first | exact .nil | refine .cons rfl ?_)) (by first | exact SubL.out | repeat (first | exact List.Sublist.refl _ | exact List.nil_sublist _ | refine .cons_cons _ ?_ | refine .cons _ ?_ | refine List.Sublist.append (List.Sublist.refl _) ?_ | exact List.sublist_append_left _ _ | refine List.Sublist.trans ?_ (List.sublist_append_right _ _))) (⟨0, by omega, by simp, by simp, rfl, rfl⟩) ?_
  rintro mI sI LI gL0 ⟨k, hk, hn, rfl, rfl, rfl⟩
  refine c_seq ?_
  refine c_region ?_
  refine w_lss rfl (by (conv => lhs; whnf); first | done | rfl) (by (conv => lhs; whnf); first | done | rfl) ?_
  refine w_nil ?_
  refine tq_n ?_
  refine c_seq ?_
  refine c_cond_d (by (conv => lhs; whnf); first | done | rfl) (fun hc9 => ?_) (fun hc9 => ?_)
  · have hlt : k < xs.length := by omega
    refine c_skip ?_
    refine tq_n ?_
    refine c_seq ?_
    refine c_block ?_
    refine c_seq ?_
    refine c_region ?_
    refine w_mov rfl (by (conv => lhs; whnf); first | done | rfl) ?_
    refine w_asg rfl (by (conv => lhs; whnf); first | done | rfl) ?_
    refine w_nil ?_
    refine tq_n ?_
    refine c_seq ?_
    refine c_region ?_
    refine w_mov rfl (by (conv => lhs; whnf); first | done | rfl) ?_
    refine w_mov rfl (by (conv => lhs; whnf); first | done | rfl) ?_
    refine w_mov rfl (by (conv => lhs; whnf); first | done | rfl) ?_
    refine x_ixA rfl (by (conv => lhs; whnf); first | done | rfl) (by (conv => lhs; whnf); first | done | rfl) (hA (ne_of_lt hlt)) (by omega) (by omega) ?_
    refine x_ld rfl (by (conv => lhs; whnf); first | done | rfl) (rdI (j := (k : Int)) hR (getN hlt)) ?_
    refine w_eql rfl (by (conv => lhs; whnf); first | done | rfl) (by (conv => lhs; whnf); first | done | rfl) ?_
    refine w_nil ?_
    refine tq_n ?_
    refine c_cond_d (by (conv => lhs; whnf); first | done | rfl) (fun hc16 => ?_) (fun hc16 => ?_)
    · refine c_seq ?_
      refine c_region ?_
      refine w_mov rfl (by (conv => lhs; whnf); first | done | rfl) ?_
      refine w_asg rfl (by (conv => lhs; whnf); first | done | rfl) ?_
      refine w_nil ?_
      refine tq_n ?_
      refine c_ret ?_
      refine bq_r ?_
      refine tq_r ?_
      refine tq_r ?_
      refine bq_r ?_
      refine tq_r ?_
      exact rq_r (ra_t (by (conv => lhs; whnf); first | done | rfl) .nil) (List.nil_sublist _) (⟨by rw [ixOf_at hlt hn hc16]; rfl, rfl⟩)
    · refine c_skip ?_
      refine bq_n ?_
      refine tq_n ?_
      refine c_region ?_
      refine w_add rfl (by (conv => lhs; whnf); first | done | rfl) (by (conv => lhs; whnf); first | done | rfl) (by omega) ?_
      refine w_mov rfl (by (conv => lhs; whnf); first | done | rfl) ?_
      refine w_nil ?_
      refine tq_n ?_
      exact ⟨(by first | ((repeat (first | with_reducible exact Ag.refl | with_reducible exact Ag.ov | (with_reducible refine Ag.upd ?_ ?_; exact rfl) | with_reducible refine Ag.putn ?_ | (with_reducible refine Ag.ovs ?_ ?_; exact rfl))); done) | (repeat (first | exact Ag.refl | exact Ag.ov | (refine Ag.upd ?_ ?_; exact rfl) | refine Ag.putn ?_ | (refine Ag.ovs ?_ ?_; exact rfl)))), xs.length - (k + 1), [(8, .int .i64 ((k + 1 : Nat) : Int))], _, by omega, (by first | exact SubL.out | repeat (first | exact List.Sublist.refl _ | exact List.nil_sublist _ | refine .cons_cons _ ?_ | refine .cons _ ?_ | refine List.Sublist.append (List.Sublist.refl _) ?_ | exact List.sublist_append_left _ _ | refine List.Sublist.trans ?_ (List.sublist_append_right _ _))), (by repeat (first | exact .nil | refine .cons rfl ?_)), ⟨k + 1, by omega, nmem_succ hlt hn hc16, rfl, rfl, rfl⟩⟩
  · refine c_exit ?_
    refine tq_e ?_
    refine tq_e ?_
    refine bq_e ?_
    refine tq_n ?_
    refine c_seq ?_
    refine c_region ?_
    refine w_asg rfl (by (conv => lhs; whnf); first | done | rfl) ?_
    refine w_nil ?_
    refine tq_n ?_
    refine c_ret ?_
    exact rq_r (ra_t (by (conv => lhs; whnf); first | done | rfl) .nil) (List.nil_sublist _) (⟨by rw [List.take_of_length_le (by omega)] at hn; unfold ixOf; rw [if_neg hn]; rfl, rfl⟩)
theorem contains_g {v : Value} {xs : List Int} {x : Int} (h : IL w0 L v xs) : Gives Try.prog w0 L 103 [v, .int .i64 x] (fun v' L' => v' = .bool (decide (x ∈ xs)) ∧ L' = L) := by
  refine enterP Try.func103 rfl Try.ntmps103 Try.results103 (Nat.le_of_ble_eq_true rfl) fun w hM => ?_
  replace h := h.at hM
  clear hM
  have e : (0 ≤ ixOf xs x) = (x ∈ xs) := by
    unfold ixOf; split
    · rename_i h; simp [h]
    · rename_i h; simp [h]
  refine c_seq ?_
  refine c_region ?_
  refine w_asg rfl (by (conv => lhs; whnf); first | done | rfl) ?_
  refine w_nil ?_
  refine tq_n ?_
  refine c_seq ?_
  refine c_region ?_
  refine w_mov rfl (by (conv => lhs; whnf); first | done | rfl) ?_
  refine w_mov rfl (by (conv => lhs; whnf); first | done | rfl) ?_
  refine x_callp (by decide) (index_g h) rfl rfl rfl ?_
  refine w_geq rfl (by (conv => lhs; whnf); first | done | rfl) (by (conv => lhs; whnf); first | done | rfl) ?_
  refine w_asg rfl (by (conv => lhs; whnf); first | done | rfl) ?_
  refine w_nil ?_
  refine tq_n ?_
  refine c_ret ?_
  exact rq_r (ra_t (by (conv => lhs; whnf); first | done | rfl) .nil) (List.nil_sublist _) (⟨by show Value.bool (decide (0 ≤ ixOf xs x)) = _; simp only [e], rfl⟩)
/-- The first place at which a test holds. -/
def fxOf (φ : Int → Bool) (xs : List Int) : Int := match xs.findIdx? φ with | some i => (i : Int) | none => -1
theorem fxOf_at {φ : Int → Bool} {xs : List Int} {k : Nat} (hk : k < xs.length) (hn : ∀ x ∈ xs.take k, φ x = false) (h : φ (xs[k]'hk) = true) : fxOf φ xs = k := by
  unfold fxOf
  rw [List.findIdx?_eq_some_of_exists (p := φ) ⟨_, List.getElem_mem hk, h⟩]
  have : xs.findIdx φ = k := by
    rw [List.findIdx_eq hk]
    refine ⟨h, fun j hj => hn _ ?_⟩
    rw [List.mem_take_iff_getElem]
    exact ⟨j, by omega, rfl⟩
  simp [this]
theorem fxOf_none {φ : Int → Bool} {xs : List Int} (hn : ∀ x ∈ xs, φ x = false) : fxOf φ xs = -1 := by
  unfold fxOf
  rw [List.findIdx?_eq_none_iff.2 (fun x hx => by simp [hn x hx])]
/-- A function value that gives φ and leaves the memory at hand, at each of the numbers. -/
def Tells (w0 : World) (L : Own) (k : Nat) (cap : Array Value) (φ : Int → Bool) : Prop := ∀ w, Mem w0 w L → ∀ L', ∀ x, Gives Try.prog w L' k ([.int .i64 x] ++ cap.toList) (fun v' L2 => v' = .bool (decide (φ x = true)) ∧ L2 = L')
theorem indexFunc_g {k : Nat} [CFN Try.prog k] {cap : Array Value} {φ : Int → Bool} {v : Value} {xs : List Int} (h : IL w0 L v xs) (hφ : Tells w0 L k cap φ) : Gives Try.prog w0 L 108 [v, .func (.func k) #[] cap] (fun v' L' => v' = .int .i64 (fxOf φ xs) ∧ L' = L) := by
  refine enterP Try.func108 rfl Try.ntmps108 Try.results108 (Nat.le_of_ble_eq_true rfl) fun w hM => ?_
  have hφ := hφ w hM
  obtain ⟨A, cap', rfl, hcap, hlen, hA, hR⟩ := (h.at hM).ex
  clear h hM
  refine c_seq ?_
  refine c_region ?_
  refine w_asg rfl (by (conv => lhs; whnf); first | done | rfl) ?_
  refine w_nil ?_
  refine tq_n ?_
  refine c_seq ?_
  refine c_seq ?_
  refine c_region ?_
  refine w_mov rfl (by (conv => lhs; whnf); first | done | rfl) ?_
  refine x_len rfl (by (conv => lhs; whnf); first | done | rfl) ?_
  refine w_mov rfl (by (conv => lhs; whnf); first | done | rfl) ?_
  refine w_nil ?_
  refine tq_n ?_
  refine c_block ?_
  refine c_loop_ov [9, 10, 5, 11, 12, 13, 14, 15, 16, 17, 4, 18, 8] (fun m s L => ∃ k : Nat, k ≤ xs.length ∧ (∀ x ∈ xs.take k, φ x = false) ∧ m = xs.length - k ∧ s = [(8, .int .i64 k)] ∧ L = []) (xs.length) [(8, .int .i64 (0 : Nat))] (by repeat (first | exact .nil | refine .cons rfl ?_)) (by first | exact SubL.out | repeat (first | exact List.Sublist.refl _ | exact List.nil_sublist _ | refine .cons_cons _ ?_ | refine .cons _ ?_ | refine List.Sublist.append (List.Sublist.refl _) ?_ | exact List.sublist_append_left _ _ | refine List.Sublist.trans ?_ (List.sublist_append_right _ _))) (⟨0, by omega, by simp, by simp, rfl, rfl⟩) ?_
  rintro mI sI LI gL0 ⟨k, hk, hn, rfl, rfl, rfl⟩
  refine c_seq ?_
  refine c_region ?_
  refine w_lss rfl (by (conv => lhs; whnf); first | done | rfl) (by (conv => lhs; whnf); first | done | rfl) ?_
  refine w_nil ?_
  refine tq_n ?_
  refine c_seq ?_
  refine c_cond_d (by (conv => lhs; whnf); first | done | rfl) (fun hc9 => ?_) (fun hc9 => ?_)
  · have hlt : k < xs.length := by omega
    refine c_skip ?_
    refine tq_n ?_
    refine c_seq ?_
    refine c_block ?_
    refine c_seq ?_
    refine c_region ?_
    refine w_mov rfl (by (conv => lhs; whnf); first | done | rfl) ?_
    refine w_asg rfl (by (conv => lhs; whnf); first | done | rfl) ?_
    refine w_nil ?_
    refine tq_n ?_
    refine c_seq ?_
    refine c_region ?_
    refine w_mov rfl (by (conv => lhs; whnf); first | done | rfl) ?_
    refine w_mov rfl (by (conv => lhs; whnf); first | done | rfl) ?_
    refine w_mov rfl (by (conv => lhs; whnf); first | done | rfl) ?_
    refine x_ixA rfl (by (conv => lhs; whnf); first | done | rfl) (by (conv => lhs; whnf); first | done | rfl) (hA (ne_of_lt hlt)) (by omega) (by omega) ?_
    refine x_ld rfl (by (conv => lhs; whnf); first | done | rfl) (rdI (j := (k : Int)) hR (getN hlt)) ?_
    refine x_callp (by decide) (hφ _ _) rfl rfl rfl ?_
    refine w_nil ?_
    refine tq_n ?_
    refine c_cond_d (by (conv => lhs; whnf); first | done | rfl) (fun hc16 => ?_) (fun hc16 => ?_)
    · refine c_seq ?_
      refine c_region ?_
      refine w_mov rfl (by (conv => lhs; whnf); first | done | rfl) ?_
      refine w_asg rfl (by (conv => lhs; whnf); first | done | rfl) ?_
      refine w_nil ?_
      refine tq_n ?_
      refine c_ret ?_
      refine bq_r ?_
      refine tq_r ?_
      refine tq_r ?_
      refine bq_r ?_
      refine tq_r ?_
      exact rq_r (ra_t (by (conv => lhs; whnf); first | done | rfl) .nil) (List.nil_sublist _) (⟨by rw [fxOf_at hlt hn hc16]; rfl, rfl⟩)
    · refine c_skip ?_
      refine bq_n ?_
      refine tq_n ?_
      refine c_region ?_
      refine w_add rfl (by (conv => lhs; whnf); first | done | rfl) (by (conv => lhs; whnf); first | done | rfl) (by omega) ?_
      refine w_mov rfl (by (conv => lhs; whnf); first | done | rfl) ?_
      refine w_nil ?_
      refine tq_n ?_
      exact ⟨(by first | ((repeat (first | with_reducible exact Ag.refl | with_reducible exact Ag.ov | (with_reducible refine Ag.upd ?_ ?_; exact rfl) | with_reducible refine Ag.putn ?_ | (with_reducible refine Ag.ovs ?_ ?_; exact rfl))); done) | (repeat (first | exact Ag.refl | exact Ag.ov | (refine Ag.upd ?_ ?_; exact rfl) | refine Ag.putn ?_ | (refine Ag.ovs ?_ ?_; exact rfl)))), xs.length - (k + 1), [(8, .int .i64 ((k + 1 : Nat) : Int))], _, by omega, (by first | exact SubL.out | repeat (first | exact List.Sublist.refl _ | exact List.nil_sublist _ | refine .cons_cons _ ?_ | refine .cons _ ?_ | refine List.Sublist.append (List.Sublist.refl _) ?_ | exact List.sublist_append_left _ _ | refine List.Sublist.trans ?_ (List.sublist_append_right _ _))), (by repeat (first | exact .nil | refine .cons rfl ?_)), ⟨k + 1, by omega, by rw [take_succ' hlt]; exact fun x hx => (List.mem_append.1 hx).elim (hn x) (fun hx => by rw [List.mem_singleton.1 hx]; simpa using hc16), rfl, rfl, rfl⟩⟩
  · refine c_exit ?_
    refine tq_e ?_
    refine tq_e ?_
    refine bq_e ?_
    refine tq_n ?_
    refine c_seq ?_
    refine c_region ?_
    refine w_asg rfl (by (conv => lhs; whnf); first | done | rfl) ?_
    refine w_nil ?_
    refine tq_n ?_
    refine c_ret ?_
    exact rq_r (ra_t (by (conv => lhs; whnf); first | done | rfl) .nil) (List.nil_sublist _) (⟨by rw [List.take_of_length_le (by omega)] at hn; rw [fxOf_none hn]; rfl, rfl⟩)
theorem fxOf_ge {φ : Int → Bool} {xs : List Int} : (0 ≤ fxOf φ xs) = (xs.any φ = true) := by
  unfold fxOf
  cases h : xs.findIdx? φ with
  | none =>
    have := List.findIdx?_eq_none_iff.1 h
    simp only [List.any_eq_true, eq_iff_iff]
    constructor
    · intro h; omega
    · rintro ⟨x, hx, hp⟩; rw [this x hx] at hp; cases hp
  | some i =>
    obtain ⟨h1, h2, _⟩ := List.findIdx?_eq_some_iff_getElem.1 h
    simp only [List.any_eq_true, eq_iff_iff]
    exact ⟨fun _ => ⟨_, List.getElem_mem h1, h2⟩, fun _ => by omega⟩
theorem containsFunc_g {k : Nat} [CFN Try.prog k] {cap : Array Value} {φ : Int → Bool} {v : Value} {xs : List Int} (h : IL w0 L v xs) (hφ : Tells w0 L k cap φ) : Gives Try.prog w0 L 67 [v, .func (.func k) #[] cap] (fun v' L' => v' = .bool (decide (xs.any φ = true)) ∧ L' = L) := by
  refine enterP Try.func67 rfl Try.ntmps67 Try.results67 (Nat.le_of_ble_eq_true rfl) fun w hM => ?_
  have hφ : Tells w [] k cap φ := fun w' hM' L' x => hφ w' (hM.trans_nil' hM') L' x
  replace h := h.at hM
  clear hM
  refine c_seq ?_
  refine c_region ?_
  refine w_asg rfl (by (conv => lhs; whnf); first | done | rfl) ?_
  refine w_nil ?_
  refine tq_n ?_
  refine c_seq ?_
  refine c_region ?_
  refine w_mov rfl (by (conv => lhs; whnf); first | done | rfl) ?_
  refine w_mov rfl (by (conv => lhs; whnf); first | done | rfl) ?_
  refine x_callp (by decide) (indexFunc_g h hφ) rfl rfl rfl ?_
  refine w_geq rfl (by (conv => lhs; whnf); first | done | rfl) (by (conv => lhs; whnf); first | done | rfl) ?_
  refine w_asg rfl (by (conv => lhs; whnf); first | done | rfl) ?_
  refine w_nil ?_
  refine tq_n ?_
  refine c_ret ?_
  exact rq_r (ra_t (by (conv => lhs; whnf); first | done | rfl) .nil) (List.nil_sublist _) (⟨by show Value.bool (decide (0 ≤ fxOf φ xs)) = _; simp only [fxOf_ge], rfl⟩)
theorem eqI_g {v u : Value} {xs ys : List Int} (h : IL w0 L v xs) (h' : IL w0 L u ys) : Gives Try.prog w0 L 42 [v, u] (fun v' L' => v' = .bool (decide (xs = ys)) ∧ L' = L) := by
  refine enterP Try.func42 rfl Try.ntmps42 Try.results42 (Nat.le_of_ble_eq_true rfl) fun w hM => ?_
  obtain ⟨A, cap, rfl, hcap, hlen, hA, hR⟩ := (h.at hM).ex
  obtain ⟨A', cap', rfl, hcap', hlen', hA', hR'⟩ := (h'.at hM).ex
  clear h h' hM
  refine c_seq ?_
  refine c_region ?_
  refine w_asg rfl (by (conv => lhs; whnf); first | done | rfl) ?_
  refine w_nil ?_
  refine tq_n ?_
  refine c_seq ?_
  refine c_seq ?_
  refine c_region ?_
  refine w_mov rfl (by (conv => lhs; whnf); first | done | rfl) ?_
  refine x_len rfl (by (conv => lhs; whnf); first | done | rfl) ?_
  refine w_mov rfl (by (conv => lhs; whnf); first | done | rfl) ?_
  refine x_len rfl (by (conv => lhs; whnf); first | done | rfl) ?_
  refine w_neq rfl (by (conv => lhs; whnf); first | done | rfl) (by (conv => lhs; whnf); first | done | rfl) ?_
  refine w_nil ?_
  refine tq_n ?_
  refine c_cond_d (by (conv => lhs; whnf); first | done | rfl) (fun hc10 => ?_) (fun hc10 => ?_)
  · refine c_seq ?_
    refine c_region ?_
    refine w_asg rfl (by (conv => lhs; whnf); first | done | rfl) ?_
    refine w_nil ?_
    refine tq_n ?_
    refine c_ret ?_
    refine tq_r ?_
    exact rq_r (ra_t (by (conv => lhs; whnf); first | done | rfl) .nil) (List.nil_sublist _) (⟨by rw [decide_eq_false (fun e => by subst e; exact hc10 rfl)]; rfl, rfl⟩)
  · refine c_skip ?_
    refine tq_n ?_
    refine c_seq ?_
    refine c_seq ?_
    refine c_region ?_
    refine w_mov rfl (by (conv => lhs; whnf); first | done | rfl) ?_
    refine x_len rfl (by (conv => lhs; whnf); first | done | rfl) ?_
    refine w_mov rfl (by (conv => lhs; whnf); first | done | rfl) ?_
    refine w_nil ?_
    refine tq_n ?_
    refine c_block ?_
    refine c_loop_ov [14, 15, 5, 16, 17, 18, 19, 20, 21, 22, 23, 24, 4, 25, 13] (fun m s L => ∃ k : Nat, k ≤ xs.length ∧ xs.take k = ys.take k ∧ m = xs.length - k ∧ s = [(13, .int .i64 k)] ∧ L = []) (xs.length) [(13, .int .i64 (0 : Nat))] (by repeat (first | exact .nil | refine .cons rfl ?_)) (by first | exact SubL.out | repeat (first | exact List.Sublist.refl _ | exact List.nil_sublist _ | refine .cons_cons _ ?_ | refine .cons _ ?_ | refine List.Sublist.append (List.Sublist.refl _) ?_ | exact List.sublist_append_left _ _ | refine List.Sublist.trans ?_ (List.sublist_append_right _ _))) (⟨0, by omega, by simp, by simp, rfl, rfl⟩) ?_
    rintro mI sI LI gL0 ⟨k, hk, hn, rfl, rfl, rfl⟩
    refine c_seq ?_
    refine c_region ?_
    refine w_lss rfl (by (conv => lhs; whnf); first | done | rfl) (by (conv => lhs; whnf); first | done | rfl) ?_
    refine w_nil ?_
    refine tq_n ?_
    refine c_seq ?_
    refine c_cond_d (by (conv => lhs; whnf); first | done | rfl) (fun hc14 => ?_) (fun hc14 => ?_)
    · have hlt : k < xs.length := by omega
      have hlt' : k < ys.length := by omega
      refine c_skip ?_
      refine tq_n ?_
      refine c_seq ?_
      refine c_block ?_
      refine c_seq ?_
      refine c_region ?_
      refine w_mov rfl (by (conv => lhs; whnf); first | done | rfl) ?_
      refine w_asg rfl (by (conv => lhs; whnf); first | done | rfl) ?_
      refine w_nil ?_
      refine tq_n ?_
      refine c_seq ?_
      refine c_draw mixed (by kernel_rfl) ?_
      refine w_mov rfl (by (conv => lhs; whnf); first | done | rfl) ?_
      refine w_mov rfl (by (conv => lhs; whnf); first | done | rfl) ?_
      refine x_ixA rfl (by (conv => lhs; whnf); first | done | rfl) (by (conv => lhs; whnf); first | done | rfl) (hA (ne_of_lt hlt)) (by omega) (by omega) ?_
      refine x_ld rfl (by (conv => lhs; whnf); first | done | rfl) (rdI (j := (k : Int)) hR (getN hlt)) ?_
      refine w_mov rfl (by (conv => lhs; whnf); first | done | rfl) ?_
      refine w_mov rfl (by (conv => lhs; whnf); first | done | rfl) ?_
      refine x_ixA rfl (by (conv => lhs; whnf); first | done | rfl) (by (conv => lhs; whnf); first | done | rfl) (hA' (ne_of_lt hlt')) (by omega) (by omega) ?_
      refine x_ld rfl (by (conv => lhs; whnf); first | done | rfl) (rdI (j := (k : Int)) hR' (getN hlt')) ?_
      refine w_neq rfl (by (conv => lhs; whnf); first | done | rfl) (by (conv => lhs; whnf); first | done | rfl) ?_
      refine w_nil ?_
      refine tq_n ?_
      refine c_cond_d (by (conv => lhs; whnf); first | done | rfl) (fun hc24 => ?_) (fun hc24 => ?_)
      · refine c_seq ?_
        refine c_region ?_
        refine w_asg rfl (by (conv => lhs; whnf); first | done | rfl) ?_
        refine w_nil ?_
        refine tq_n ?_
        refine c_ret ?_
        refine bq_r ?_
        refine tq_r ?_
        refine tq_r ?_
        refine bq_r ?_
        refine tq_r ?_
        exact rq_r (ra_t (by (conv => lhs; whnf); first | done | rfl) .nil) (List.nil_sublist _) (⟨by rw [decide_eq_false (fun e => by subst e; exact hc24 rfl)]; rfl, rfl⟩)
      · refine c_skip ?_
        refine bq_n ?_
        refine tq_n ?_
        refine c_region ?_
        refine w_add rfl (by (conv => lhs; whnf); first | done | rfl) (by (conv => lhs; whnf); first | done | rfl) (by omega) ?_
        refine w_mov rfl (by (conv => lhs; whnf); first | done | rfl) ?_
        refine w_nil ?_
        refine tq_n ?_
        exact ⟨(by first | ((repeat (first | with_reducible exact Ag.refl | with_reducible exact Ag.ov | (with_reducible refine Ag.upd ?_ ?_; exact rfl) | with_reducible refine Ag.putn ?_ | (with_reducible refine Ag.ovs ?_ ?_; exact rfl))); done) | (repeat (first | exact Ag.refl | exact Ag.ov | (refine Ag.upd ?_ ?_; exact rfl) | refine Ag.putn ?_ | (refine Ag.ovs ?_ ?_; exact rfl)))), xs.length - (k + 1), [(13, .int .i64 ((k + 1 : Nat) : Int))], _, by omega, (by first | exact SubL.out | repeat (first | exact List.Sublist.refl _ | exact List.nil_sublist _ | refine .cons_cons _ ?_ | refine .cons _ ?_ | refine List.Sublist.append (List.Sublist.refl _) ?_ | exact List.sublist_append_left _ _ | refine List.Sublist.trans ?_ (List.sublist_append_right _ _))), (by repeat (first | exact .nil | refine .cons rfl ?_)), ⟨k + 1, by omega, by rw [take_succ' hlt, take_succ' hlt', hn, Decidable.not_not.1 hc24], rfl, rfl, rfl⟩⟩
    · refine c_exit ?_
      refine tq_e ?_
      refine tq_e ?_
      refine bq_e ?_
      refine tq_n ?_
      refine c_seq ?_
      refine c_region ?_
      refine w_asg rfl (by (conv => lhs; whnf); first | done | rfl) ?_
      refine w_nil ?_
      refine tq_n ?_
      refine c_ret ?_
      exact rq_r (ra_t (by (conv => lhs; whnf); first | done | rfl) .nil) (List.nil_sublist _) (⟨by rw [List.take_of_length_le (by omega), List.take_of_length_le (by omega)] at hn; rw [decide_eq_true hn]; rfl, rfl⟩)
theorem has_g {v : Value} {xs : List Int} {x : Int} (h : IL w0 L v xs) : Gives Try.prog w0 L 106 [v, .int .i64 x] (fun v' L' => v' = .bool (decide (x ∈ xs)) ∧ L' = L) := by
  refine enterP Try.func106 rfl Try.ntmps106 Try.results106 (Nat.le_of_ble_eq_true rfl) fun w hM => ?_
  obtain ⟨A, cap, rfl, hcap, hlen, hA, hR⟩ := (h.at hM).ex
  clear h hM
  refine c_seq ?_
  refine c_region ?_
  refine w_asg rfl (by (conv => lhs; whnf); first | done | rfl) ?_
  refine w_nil ?_
  refine tq_n ?_
  refine c_seq ?_
  refine c_seq ?_
  refine c_region ?_
  refine w_asg rfl (by (conv => lhs; whnf); first | done | rfl) ?_
  refine w_nil ?_
  refine tq_n ?_
  refine c_block ?_
  refine c_loop_ov [6, 7, 8, 9, 12, 13, 14, 15, 16, 17, 4, 10, 11, 5] (fun m s L => ∃ k : Nat, k ≤ xs.length ∧ x ∉ xs.take k ∧ m = xs.length - k ∧ s = [(5, .int .i64 k)] ∧ L = []) (xs.length) [(5, .int .i64 (0 : Nat))] (by repeat (first | exact .nil | refine .cons rfl ?_)) (by first | exact SubL.out | repeat (first | exact List.Sublist.refl _ | exact List.nil_sublist _ | refine .cons_cons _ ?_ | refine .cons _ ?_ | refine List.Sublist.append (List.Sublist.refl _) ?_ | exact List.sublist_append_left _ _ | refine List.Sublist.trans ?_ (List.sublist_append_right _ _))) (⟨0, by omega, by simp, by simp, rfl, rfl⟩) ?_
  rintro mI sI LI gL0 ⟨k, hk, hn, rfl, rfl, rfl⟩
  refine c_seq ?_
  refine c_seq ?_
  refine c_region ?_
  refine w_mov rfl (by (conv => lhs; whnf); first | done | rfl) ?_
  refine w_mov rfl (by (conv => lhs; whnf); first | done | rfl) ?_
  refine x_len rfl (by (conv => lhs; whnf); first | done | rfl) ?_
  refine w_lss rfl (by (conv => lhs; whnf); first | done | rfl) (by (conv => lhs; whnf); first | done | rfl) ?_
  refine w_nil ?_
  refine tq_n ?_
  refine c_cond_d (by (conv => lhs; whnf); first | done | rfl) (fun hc9 => ?_) (fun hc9 => ?_)
  · have hlt : k < xs.length := by omega
    refine c_skip ?_
    refine tq_n ?_
    refine c_seq ?_
    refine c_block ?_
    refine c_seq ?_
    refine c_region ?_
    refine w_mov rfl (by (conv => lhs; whnf); first | done | rfl) ?_
    refine w_mov rfl (by (conv => lhs; whnf); first | done | rfl) ?_
    refine x_ixA rfl (by (conv => lhs; whnf); first | done | rfl) (by (conv => lhs; whnf); first | done | rfl) (hA (ne_of_lt hlt)) (by omega) (by omega) ?_
    refine x_ld rfl (by (conv => lhs; whnf); first | done | rfl) (rdI (j := (k : Int)) hR (getN hlt)) ?_
    refine w_mov rfl (by (conv => lhs; whnf); first | done | rfl) ?_
    refine w_eql rfl (by (conv => lhs; whnf); first | done | rfl) (by (conv => lhs; whnf); first | done | rfl) ?_
    refine w_nil ?_
    refine tq_n ?_
    refine c_cond_d (by (conv => lhs; whnf); first | done | rfl) (fun hc17 => ?_) (fun hc17 => ?_)
    · refine c_seq ?_
      refine c_region ?_
      refine w_asg rfl (by (conv => lhs; whnf); first | done | rfl) ?_
      refine w_nil ?_
      refine tq_n ?_
      refine c_ret ?_
      refine bq_r ?_
      refine tq_r ?_
      refine tq_r ?_
      refine bq_r ?_
      refine tq_r ?_
      exact rq_r (ra_t (by (conv => lhs; whnf); first | done | rfl) .nil) (List.nil_sublist _) (⟨by rw [decide_eq_true (hc17 ▸ List.getElem_mem hlt)]; rfl, rfl⟩)
    · refine c_skip ?_
      refine bq_n ?_
      refine tq_n ?_
      refine c_region ?_
      refine w_mov rfl (by (conv => lhs; whnf); first | done | rfl) ?_
      refine w_add rfl (by (conv => lhs; whnf); first | done | rfl) (by (conv => lhs; whnf); first | done | rfl) (by omega) ?_
      refine w_asg rfl (by (conv => lhs; whnf); first | done | rfl) ?_
      refine w_nil ?_
      refine tq_n ?_
      exact ⟨(by first | ((repeat (first | with_reducible exact Ag.refl | with_reducible exact Ag.ov | (with_reducible refine Ag.upd ?_ ?_; exact rfl) | with_reducible refine Ag.putn ?_ | (with_reducible refine Ag.ovs ?_ ?_; exact rfl))); done) | (repeat (first | exact Ag.refl | exact Ag.ov | (refine Ag.upd ?_ ?_; exact rfl) | refine Ag.putn ?_ | (refine Ag.ovs ?_ ?_; exact rfl)))), xs.length - (k + 1), [(5, .int .i64 ((k + 1 : Nat) : Int))], _, by omega, (by first | exact SubL.out | repeat (first | exact List.Sublist.refl _ | exact List.nil_sublist _ | refine .cons_cons _ ?_ | refine .cons _ ?_ | refine List.Sublist.append (List.Sublist.refl _) ?_ | exact List.sublist_append_left _ _ | refine List.Sublist.trans ?_ (List.sublist_append_right _ _))), (by repeat (first | exact .nil | refine .cons rfl ?_)), ⟨k + 1, by omega, nmem_succ hlt hn (Ne.symm hc17), rfl, rfl, rfl⟩⟩
  · refine c_exit ?_
    refine tq_e ?_
    refine tq_e ?_
    refine bq_e ?_
    refine tq_n ?_
    refine c_seq ?_
    refine c_region ?_
    refine w_asg rfl (by (conv => lhs; whnf); first | done | rfl) ?_
    refine w_nil ?_
    refine tq_n ?_
    refine c_ret ?_
    exact rq_r (ra_t (by (conv => lhs; whnf); first | done | rfl) .nil) (List.nil_sublist _) (⟨by rw [List.take_of_length_le (by omega)] at hn; rw [decide_eq_false hn]; rfl, rfl⟩)
theorem sameInts_g {v u : Value} {xs ys : List Int} (h : IL w0 L v xs) (h' : IL w0 L u ys) : Gives Try.prog w0 L 61 [v, u] (fun v' L' => v' = .bool (decide (xs = ys)) ∧ L' = L) := by
  refine enterP Try.func61 rfl Try.ntmps61 Try.results61 (Nat.le_of_ble_eq_true rfl) fun w hM => ?_
  obtain ⟨A, cap, rfl, hcap, hlen, hA, hR⟩ := (h.at hM).ex
  obtain ⟨A', cap', rfl, hcap', hlen', hA', hR'⟩ := (h'.at hM).ex
  clear h h' hM
  refine c_seq ?_
  refine c_region ?_
  refine w_asg rfl (by (conv => lhs; whnf); first | done | rfl) ?_
  refine w_nil ?_
  refine tq_n ?_
  refine c_seq ?_
  refine c_seq ?_
  refine c_region ?_
  refine w_mov rfl (by (conv => lhs; whnf); first | done | rfl) ?_
  refine x_len rfl (by (conv => lhs; whnf); first | done | rfl) ?_
  refine w_mov rfl (by (conv => lhs; whnf); first | done | rfl) ?_
  refine x_len rfl (by (conv => lhs; whnf); first | done | rfl) ?_
  refine w_neq rfl (by (conv => lhs; whnf); first | done | rfl) (by (conv => lhs; whnf); first | done | rfl) ?_
  refine w_nil ?_
  refine tq_n ?_
  refine c_cond_d (by (conv => lhs; whnf); first | done | rfl) (fun hc10 => ?_) (fun hc10 => ?_)
  · refine c_seq ?_
    refine c_region ?_
    refine w_asg rfl (by (conv => lhs; whnf); first | done | rfl) ?_
    refine w_nil ?_
    refine tq_n ?_
    refine c_ret ?_
    refine tq_r ?_
    exact rq_r (ra_t (by (conv => lhs; whnf); first | done | rfl) .nil) (List.nil_sublist _) (⟨by rw [decide_eq_false (fun e => by subst e; exact hc10 rfl)]; rfl, rfl⟩)
  · refine c_skip ?_
    refine tq_n ?_
    refine c_seq ?_
    refine c_seq ?_
    refine c_region ?_
    refine w_asg rfl (by (conv => lhs; whnf); first | done | rfl) ?_
    refine w_nil ?_
    refine tq_n ?_
    refine c_block ?_
    refine c_loop_ov [11, 12, 13, 14, 17, 18, 19, 20, 21, 22, 23, 24, 25, 4, 15, 16, 5] (fun m s L => ∃ k : Nat, k ≤ xs.length ∧ xs.take k = ys.take k ∧ m = xs.length - k ∧ s = [(5, .int .i64 k)] ∧ L = []) (xs.length) [(5, .int .i64 (0 : Nat))] (by repeat (first | exact .nil | refine .cons rfl ?_)) (by first | exact SubL.out | repeat (first | exact List.Sublist.refl _ | exact List.nil_sublist _ | refine .cons_cons _ ?_ | refine .cons _ ?_ | refine List.Sublist.append (List.Sublist.refl _) ?_ | exact List.sublist_append_left _ _ | refine List.Sublist.trans ?_ (List.sublist_append_right _ _))) (⟨0, by omega, by simp, by simp, rfl, rfl⟩) ?_
    rintro mI sI LI gL0 ⟨k, hk, hn, rfl, rfl, rfl⟩
    refine c_seq ?_
    refine c_seq ?_
    refine c_region ?_
    refine w_mov rfl (by (conv => lhs; whnf); first | done | rfl) ?_
    refine w_mov rfl (by (conv => lhs; whnf); first | done | rfl) ?_
    refine x_len rfl (by (conv => lhs; whnf); first | done | rfl) ?_
    refine w_lss rfl (by (conv => lhs; whnf); first | done | rfl) (by (conv => lhs; whnf); first | done | rfl) ?_
    refine w_nil ?_
    refine tq_n ?_
    refine c_cond_d (by (conv => lhs; whnf); first | done | rfl) (fun hc14 => ?_) (fun hc14 => ?_)
    · have hlt : k < xs.length := by omega
      have hlt' : k < ys.length := by omega
      refine c_skip ?_
      refine tq_n ?_
      refine c_seq ?_
      refine c_block ?_
      refine c_seq ?_
      refine c_draw mixed (by kernel_rfl) ?_
      refine w_mov rfl (by (conv => lhs; whnf); first | done | rfl) ?_
      refine w_mov rfl (by (conv => lhs; whnf); first | done | rfl) ?_
      refine x_ixA rfl (by (conv => lhs; whnf); first | done | rfl) (by (conv => lhs; whnf); first | done | rfl) (hA (ne_of_lt hlt)) (by omega) (by omega) ?_
      refine x_ld rfl (by (conv => lhs; whnf); first | done | rfl) (rdI (j := (k : Int)) hR (getN hlt)) ?_
      refine w_mov rfl (by (conv => lhs; whnf); first | done | rfl) ?_
      refine w_mov rfl (by (conv => lhs; whnf); first | done | rfl) ?_
      refine x_ixA rfl (by (conv => lhs; whnf); first | done | rfl) (by (conv => lhs; whnf); first | done | rfl) (hA' (ne_of_lt hlt')) (by omega) (by omega) ?_
      refine x_ld rfl (by (conv => lhs; whnf); first | done | rfl) (rdI (j := (k : Int)) hR' (getN hlt')) ?_
      refine w_neq rfl (by (conv => lhs; whnf); first | done | rfl) (by (conv => lhs; whnf); first | done | rfl) ?_
      refine w_nil ?_
      refine tq_n ?_
      refine c_cond_d (by (conv => lhs; whnf); first | done | rfl) (fun hc25 => ?_) (fun hc25 => ?_)
      · refine c_seq ?_
        refine c_region ?_
        refine w_asg rfl (by (conv => lhs; whnf); first | done | rfl) ?_
        refine w_nil ?_
        refine tq_n ?_
        refine c_ret ?_
        refine bq_r ?_
        refine tq_r ?_
        refine tq_r ?_
        refine bq_r ?_
        refine tq_r ?_
        exact rq_r (ra_t (by (conv => lhs; whnf); first | done | rfl) .nil) (List.nil_sublist _) (⟨by rw [decide_eq_false (fun e => by subst e; exact hc25 rfl)]; rfl, rfl⟩)
      · refine c_skip ?_
        refine bq_n ?_
        refine tq_n ?_
        refine c_region ?_
        refine w_mov rfl (by (conv => lhs; whnf); first | done | rfl) ?_
        refine w_add rfl (by (conv => lhs; whnf); first | done | rfl) (by (conv => lhs; whnf); first | done | rfl) (by omega) ?_
        refine w_asg rfl (by (conv => lhs; whnf); first | done | rfl) ?_
        refine w_nil ?_
        refine tq_n ?_
        exact ⟨(by first | ((repeat (first | with_reducible exact Ag.refl | with_reducible exact Ag.ov | (with_reducible refine Ag.upd ?_ ?_; exact rfl) | with_reducible refine Ag.putn ?_ | (with_reducible refine Ag.ovs ?_ ?_; exact rfl))); done) | (repeat (first | exact Ag.refl | exact Ag.ov | (refine Ag.upd ?_ ?_; exact rfl) | refine Ag.putn ?_ | (refine Ag.ovs ?_ ?_; exact rfl)))), xs.length - (k + 1), [(5, .int .i64 ((k + 1 : Nat) : Int))], _, by omega, (by first | exact SubL.out | repeat (first | exact List.Sublist.refl _ | exact List.nil_sublist _ | refine .cons_cons _ ?_ | refine .cons _ ?_ | refine List.Sublist.append (List.Sublist.refl _) ?_ | exact List.sublist_append_left _ _ | refine List.Sublist.trans ?_ (List.sublist_append_right _ _))), (by repeat (first | exact .nil | refine .cons rfl ?_)), ⟨k + 1, by omega, by rw [take_succ' hlt, take_succ' hlt', hn, Decidable.not_not.1 hc25], rfl, rfl, rfl⟩⟩
    · refine c_exit ?_
      refine tq_e ?_
      refine tq_e ?_
      refine bq_e ?_
      refine tq_n ?_
      refine c_seq ?_
      refine c_region ?_
      refine w_asg rfl (by (conv => lhs; whnf); first | done | rfl) ?_
      refine w_nil ?_
      refine tq_n ?_
      refine c_ret ?_
      exact rq_r (ra_t (by (conv => lhs; whnf); first | done | rfl) .nil) (List.nil_sublist _) (⟨by rw [List.take_of_length_le (by omega), List.take_of_length_le (by omega)] at hn; rw [decide_eq_true hn]; rfl, rfl⟩)
end
end Go.Proofs.Ytnmhhelcaibdoaa.Pl
