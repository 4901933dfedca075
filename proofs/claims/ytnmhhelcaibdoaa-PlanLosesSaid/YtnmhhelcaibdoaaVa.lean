/- slices.DeleteFunc of an owned slice of ints; the copies of a block's pages (plan.copies). -/
import Derived.Test.YtnmhhelcaibdoaaSlR
import Derived.Test.YtnmhhelcaibdoaaPt
namespace Go.Proofs.Ytnmhhelcaibdoaa.Pl
open Go Go.RowKit Sl
set_option linter.unusedVariables false
set_option linter.unusedSimpArgs false
/-- A list that is read in blocks S. -/
def FL (S : Own) (v : Value) (xs : List Int) : Prop := ∀ w0 L, S.Sublist L → IL w0 L v xs
theorem OSl.ne {E s len : Nat} {v : Value} {cs : List Value} {S : Own} (h : OSl E s v cs len S) (h0 : 0 < len) : ∃ b sp cap, v = .slice (some ⟨b, 0, none⟩) len cap ∧ S = [(b, B E (cs ++ sp))] ∧ cs.length = len * s ∧ len ≤ cap ∧ sp.length = (cap - len) * s := by
  cases h with
  | nil => exact absurd h0 (by decide)
  | @own b cs sp len cap hl hc hsp => exact ⟨b, sp, cap, rfl, rfl, hl, hc, hsp⟩
theorem setAll_lt : ∀ (vs cs : List Value) (o k : Nat), k < o → (setAll cs o vs)[k]? = cs[k]?
  | [], cs, o, k, h => rfl
  | v :: vs, cs, o, k, h => by
    simp only [setAll]
    rw [setAll_lt vs _ _ _ (by omega), List.getElem?_set_ne (by omega)]
theorem fxOf_hit {φ : Int → Bool} {xs : List Int} (h : fxOf φ xs ≠ -1) : ∃ k : Nat, ∃ hk : k < xs.length, fxOf φ xs = k ∧ (∀ x ∈ xs.take k, φ x = false) ∧ φ xs[k] = true := by
  unfold fxOf at h ⊢
  cases hx : xs.findIdx? φ with
  | none => rw [hx] at h; exact absurd rfl h
  | some k =>
    obtain ⟨h1, h2, h3⟩ := List.findIdx?_eq_some_iff_getElem.1 hx
    refine ⟨k, h1, rfl, fun x hx => ?_, h2⟩
    obtain ⟨i, hi, rfl⟩ := List.mem_iff_getElem.1 hx
    simp only [List.length_take] at hi
    rw [List.getElem_take]
    have := h3 i (by omega)
    simpa using this
theorem fxOf_miss {φ : Int → Bool} {xs : List Int} (h : fxOf φ xs = -1) : xs.filter (fun x => !φ x) = xs := by
  unfold fxOf at h
  cases hx : xs.findIdx? φ with
  | none =>
    have := List.findIdx?_eq_none_iff.1 hx
    exact List.filter_eq_self.2 fun x hx => by rw [this x hx]; rfl
  | some k => rw [hx] at h; simp only at h; omega
/-- The prefix is what is kept so far, the rest is as it was. -/
structure Del (φ : Int → Bool) (xs : List Int) (i j : Nat) (zs : List Int) : Prop where
  len : zs.length = xs.length
  pre : zs.take i = (xs.take j).filter fun x => !φ x
  ile : i = ((xs.take j).filter fun x => !φ x).length
  lt : i < j
  post : zs.drop j = xs.drop j
theorem Del.start {φ : Int → Bool} {xs : List Int} {k : Nat} (hk : k < xs.length) (h1 : ∀ x ∈ xs.take k, φ x = false) (h2 : φ xs[k] = true) : Del φ xs k (k + 1) xs := by
  have e : (xs.take (k + 1)).filter (fun x => !φ x) = xs.take k := by
    rw [take_succ' hk, List.filter_append, List.filter_eq_self.2 fun x hx => by rw [h1 x hx]; rfl]
    simp [h2]
  exact ⟨rfl, e.symm, by rw [e]; simp; omega, by omega, rfl⟩
theorem Del.get {φ : Int → Bool} {xs zs : List Int} {i j : Nat} (h : Del φ xs i j zs) (hj : j < xs.length) : zs[j]? = some (xs[j]) := by
  have := congrArg (·[0]?) h.post
  simp only [List.getElem?_drop, Nat.add_zero] at this
  rw [this, getN hj]
theorem Del.keep {φ : Int → Bool} {xs zs : List Int} {i j : Nat} (h : Del φ xs i j zs) (hj : j < xs.length) (hp : ¬ φ xs[j] = true) : Del φ xs (i + 1) (j + 1) (zs.set i xs[j]) := by
  have hp : φ xs[j] = false := by simpa using hp
  have e : (xs.take (j + 1)).filter (fun x => !φ x) = (xs.take j).filter (fun x => !φ x) ++ [xs[j]] := by
    rw [take_succ' hj, List.filter_append]; simp [hp]
  have hi := h.lt
  have hl := h.len
  refine ⟨by simp [hl], ?_, by rw [e]; have := h.ile; simp; omega, by omega, ?_⟩
  · rw [e, ← h.pre, List.take_succ_eq_append_getElem (by simp; omega), List.take_set_of_le (Nat.le_refl _)]
    simp
  · rw [List.drop_set_of_lt (by omega)]
    have := congrArg (List.drop 1) h.post
    simpa [List.drop_drop, Nat.add_comm] using this
theorem Del.skip {φ : Int → Bool} {xs zs : List Int} {i j : Nat} (h : Del φ xs i j zs) (hj : j < xs.length) (hp : φ xs[j] = true) : Del φ xs i (j + 1) zs := by
  have e : (xs.take (j + 1)).filter (fun x => !φ x) = (xs.take j).filter (fun x => !φ x) := by
    rw [take_succ' hj, List.filter_append]; simp [hp]
  refine ⟨h.len, by rw [e]; exact h.pre, by rw [e]; exact h.ile, by have := h.lt; omega, ?_⟩
  have := congrArg (List.drop 1) h.post
  simpa [List.drop_drop, Nat.add_comm] using this
theorem Del.fin {φ : Int → Bool} {xs zs : List Int} {i j : Nat} (h : Del φ xs i j zs) (hj : xs.length ≤ j) {b cap : Nat} {sp : List Value} {S : Own} (hc : xs.length ≤ cap) (hb : xs.length ≤ 1048576) : FL [(b, B 3 (setAll (zs.map (Value.int .i64) ++ sp) (0 + i * 1) (List.replicate (xs.length - i) (.int .i64 0))))] (.slice (some ⟨b, 0, none⟩) i cap) (xs.filter fun x => !φ x) := by
  intro w0 L hs
  have hpre := h.pre
  rw [List.take_of_length_le hj] at hpre
  have hile := h.ile
  rw [List.take_of_length_le hj] at hile
  have hle : i ≤ xs.length := by rw [hile]; exact List.length_filter_le _ _
  refine ⟨_, cap, by rw [← hile], by omega, by omega, fun _ => rfl, fun k c hk => ?_⟩
  rw [← hpre, flatI] at hk
  have hki := (List.getElem?_eq_some_iff.1 hk).1
  simp only [List.length_map, List.length_take] at hki
  show Rd w0 L ⟨b, 0 + k, none⟩ c
  refine (Rd.own (T := 3) .here ?_).sub hs
  rw [setAll_lt _ _ _ _ (by omega), Nat.zero_add, List.getElem?_append_left (by simp; omega), List.getElem?_map]
  rw [List.getElem?_map, List.getElem?_take] at hk
  rw [if_pos (by omega)] at hk
  exact hk
theorem del_cells {zs : List Int} {sp : List Value} {i : Nat} {x : Int} (hi : i < zs.length) : (zs.map (Value.int .i64) ++ sp).set (0 + i * 1) (.int .i64 x) = (zs.set i x).map (Value.int .i64) ++ sp := by
  rw [Nat.zero_add, Nat.mul_one, List.set_append_left _ _ (by simpa using hi), List.map_set]
theorem del_put {zs : List Int} {sp : List Value} {i b : Nat} {x : Int} {R : Own} (hi : i < zs.length) : Put ((b, B 3 (zs.map (Value.int .i64) ++ sp)) :: R) b (B 3 (zs.map (Value.int .i64) ++ sp)) (B 3 ((zs.map (Value.int .i64) ++ sp).set (0 + (i : Int).toNat * 1) (.int .i64 x))) ((b, B 3 ((zs.set i x).map (Value.int .i64) ++ sp)) :: R) := by
  rw [Int.toNat_natCast, del_cells hi]; exact .here
theorem del_rd {w0 : World} {zs : List Int} {sp : List Value} {j b : Nat} {x : Int} {R : Own} (hx : zs[j]? = some x) : Rd w0 ((b, B 3 (zs.map (Value.int .i64) ++ sp)) :: R) ⟨b, 0 + (j : Int).toNat * 1, none⟩ (.int .i64 x) := by
  rw [Int.toNat_natCast, Nat.mul_one, Nat.zero_add]
  refine Rd.own (T := 3) (cs := zs.map (Value.int .i64) ++ sp) .here ?_
  rw [List.getElem?_append_left (by rw [List.length_map]; exact (List.getElem?_eq_some_iff.1 hx).1), List.getElem?_map, hx]; rfl
section
variable {w0 : World} {R : Own}
theorem deleteFunc_g {kf : Nat} [CFN Try.prog kf] {cap : Array Value} {φ : Int → Bool} {v : Value} {xs : List Int} {S : Own} (h : OSl 3 1 v (xs.map (Value.int .i64)) xs.length S) (hb : xs.length ≤ 1048576) (h1 : Tells w0 (S ++ R) kf cap φ)
    (h2 : ∀ x L', R.Sublist L' → Gives Try.prog w0 L' kf ([.int .i64 x] ++ cap.toList) (fun v' L2 => v' = .bool (decide (φ x = true)) ∧ L2 = L')) :
    Gives Try.prog w0 (S ++ R) 112 [v, .func (.func kf) #[] cap] (fun v' L' => ∃ S', L' = S' ++ R ∧ FL S' v' (xs.filter fun x => !φ x)) := by
  refine enter Try.func112 rfl Try.ntmps112 Try.results112 (Nat.le_of_ble_eq_true rfl) ?_
  have hI : IL w0 (S ++ R) v xs := SlR.ofOSl (by rw [flatI]; exact h) rfl (by omega) (List.sublist_append_left _ _)
  refine c_seq ?_
  refine c_region ?_
  refine w_asg rfl (by (conv => lhs; whnf); first | done | rfl) ?_
  refine w_nil ?_
  refine tq_n ?_
  refine c_seq ?_
  refine c_region ?_
  refine w_mov rfl (by (conv => lhs; whnf); first | done | rfl) ?_
  refine w_mov rfl (by (conv => lhs; whnf); first | done | rfl) ?_
  refine x_callp (by decide) (indexFunc_g hI h1) rfl rfl rfl ?_
  refine w_asg rfl (by (conv => lhs; whnf); first | done | rfl) ?_
  refine w_nil ?_
  refine tq_n ?_
  refine c_seq ?_
  refine c_seq ?_
  refine c_region ?_
  refine w_mov rfl (by (conv => lhs; whnf); first | done | rfl) ?_
  refine w_eql rfl (by (conv => lhs; whnf); first | done | rfl) (by (conv => lhs; whnf); first | done | rfl) ?_
  refine w_nil ?_
  refine tq_n ?_
  refine c_cond_d (by (conv => lhs; whnf); first | done | rfl) (fun hc12 => ?_) (fun hc12 => ?_)
  · refine c_seq ?_
    refine c_region ?_
    refine w_mov rfl (by (conv => lhs; whnf); first | done | rfl) ?_
    refine w_asg rfl (by (conv => lhs; whnf); first | done | rfl) ?_
    refine w_nil ?_
    refine tq_n ?_
    refine c_ret ?_
    refine tq_r ?_
    exact rq_r (ra_t (by (conv => lhs; whnf); first | done | rfl) .nil) (List.Sublist.refl _) (⟨S, rfl, by rw [fxOf_miss hc12]; exact fun w0 L hs => SlR.ofOSl (by rw [flatI]; exact h) rfl (by omega) hs⟩)
  · obtain ⟨k0, hk0, hfx, hno, hyes⟩ := fxOf_hit hc12
    rw [hfx]
    obtain ⟨b, sp, cp, rfl, rfl, hcl, hcc, hsl⟩ := OSl.ne h (by omega)
    clear hI h1 h
    refine c_skip ?_
    refine tq_n ?_
    refine c_seq ?_
    refine c_seq ?_
    refine c_region ?_
    refine w_mov rfl (by (conv => lhs; whnf); first | done | rfl) ?_
    refine w_add rfl (by (conv => lhs; whnf); first | done | rfl) (by (conv => lhs; whnf); first | done | rfl) (by omega) ?_
    refine w_asg rfl (by (conv => lhs; whnf); first | done | rfl) ?_
    refine w_nil ?_
    refine tq_n ?_
    refine c_block ?_
    refine c_loop_ov [16, 17, 18, 19, 22, 23, 24, 25, 7, 26, 27, 28, 29, 30, 31, 32, 33, 34, 35, 5, 20, 21, 6] (fun m s L => ∃ (i j : Nat) (zs : List Int), j ≤ xs.length ∧ Del φ xs i j zs ∧ m = xs.length - j ∧ s = [(5, .int .i64 i), (6, .int .i64 j)] ∧ L = (b, B 3 (zs.map (Value.int .i64) ++ sp)) :: R) (xs.length - (k0 + 1)) [(5, .int .i64 k0), (6, .int .i64 ((k0 + 1 : Nat) : Int))] (by repeat (first | exact .nil | refine .cons rfl ?_)) (by first | exact SubL.out | repeat (first | exact List.Sublist.refl _ | exact List.nil_sublist _ | refine .cons_cons _ ?_ | refine .cons _ ?_ | refine List.Sublist.append (List.Sublist.refl _) ?_ | exact List.sublist_append_left _ _ | refine List.Sublist.trans ?_ (List.sublist_append_right _ _))) (⟨k0, k0 + 1, xs, by omega, Del.start hk0 hno hyes, rfl, rfl, rfl⟩) ?_
    rintro mI sI LI gL0 ⟨i, j, zs, hj, hD, rfl, rfl, rfl⟩
    refine c_seq ?_
    refine c_seq ?_
    refine c_region ?_
    refine w_mov rfl (by (conv => lhs; whnf); first | done | rfl) ?_
    refine w_mov rfl (by (conv => lhs; whnf); first | done | rfl) ?_
    refine x_len rfl (by (conv => lhs; whnf); first | done | rfl) ?_
    refine w_lss rfl (by (conv => lhs; whnf); first | done | rfl) (by (conv => lhs; whnf); first | done | rfl) ?_
    refine w_nil ?_
    refine tq_n ?_
    refine c_cond_d (by (conv => lhs; whnf); first | done | rfl) (fun hc19 => ?_) (fun hc19 => ?_)
    · have hlt : j < xs.length := by omega
      have hzl := hD.len
      have hij := hD.lt
      refine c_skip ?_
      refine tq_n ?_
      refine c_seq ?_
      refine c_block ?_
      refine c_seq ?_
      refine c_region ?_
      refine w_mov rfl (by (conv => lhs; whnf); first | done | rfl) ?_
      refine w_mov rfl (by (conv => lhs; whnf); first | done | rfl) ?_
      refine x_ixA rfl (by (conv => lhs; whnf); first | done | rfl) (by (conv => lhs; whnf); first | done | rfl) (rfl) (by omega) (by omega) ?_
      refine x_ld rfl (by (conv => lhs; whnf); first | done | rfl) (del_rd (hD.get hlt)) ?_
      refine w_asg rfl (by (conv => lhs; whnf); first | done | rfl) ?_
      refine w_nil ?_
      refine tq_n ?_
      refine c_seq ?_
      refine c_region ?_
      refine w_mov rfl (by (conv => lhs; whnf); first | done | rfl) ?_
      refine w_mov rfl (by (conv => lhs; whnf); first | done | rfl) ?_
      refine x_callp (by decide) (h2 _ _ (by first | exact SubL.out | repeat (first | exact List.Sublist.refl _ | exact List.nil_sublist _ | refine .cons_cons _ ?_ | refine .cons _ ?_ | refine List.Sublist.append (List.Sublist.refl _) ?_ | exact List.sublist_append_left _ _ | refine List.Sublist.trans ?_ (List.sublist_append_right _ _)))) rfl rfl rfl ?_
      refine w_notd rfl (by (conv => lhs; whnf); first | done | rfl) ?_
      refine w_nil ?_
      refine tq_n ?_
      refine c_cond_d (by (conv => lhs; whnf); first | done | rfl) (fun hc29 => ?_) (fun hc29 => ?_)
      · refine c_seq ?_
        refine c_region ?_
        refine w_mov rfl (by (conv => lhs; whnf); first | done | rfl) ?_
        refine w_mov rfl (by (conv => lhs; whnf); first | done | rfl) ?_
        refine w_mov rfl (by (conv => lhs; whnf); first | done | rfl) ?_
        refine x_ixA rfl (by (conv => lhs; whnf); first | done | rfl) (by (conv => lhs; whnf); first | done | rfl) (rfl) (by omega) (by omega) ?_
        refine x_sts rfl (by (conv => lhs; whnf); first | done | rfl) (by (conv => lhs; whnf); first | done | rfl) (rfl) (del_put (by omega)) (by simp; omega) ?_
        refine w_nil ?_
        refine tq_n ?_
        refine c_region ?_
        refine w_mov rfl (by (conv => lhs; whnf); first | done | rfl) ?_
        refine w_add rfl (by (conv => lhs; whnf); first | done | rfl) (by (conv => lhs; whnf); first | done | rfl) (by omega) ?_
        refine w_asg rfl (by (conv => lhs; whnf); first | done | rfl) ?_
        refine w_nil ?_
        refine bq_n ?_
        refine tq_n ?_
        refine c_region ?_
        refine w_mov rfl (by (conv => lhs; whnf); first | done | rfl) ?_
        refine w_add rfl (by (conv => lhs; whnf); first | done | rfl) (by (conv => lhs; whnf); first | done | rfl) (by omega) ?_
        refine w_asg rfl (by (conv => lhs; whnf); first | done | rfl) ?_
        refine w_nil ?_
        refine tq_n ?_
        exact ⟨(by first | ((repeat (first | with_reducible exact Ag.refl | with_reducible exact Ag.ov | (with_reducible refine Ag.upd ?_ ?_; exact rfl) | with_reducible refine Ag.putn ?_ | (with_reducible refine Ag.ovs ?_ ?_; exact rfl))); done) | (repeat (first | exact Ag.refl | exact Ag.ov | (refine Ag.upd ?_ ?_; exact rfl) | refine Ag.putn ?_ | (refine Ag.ovs ?_ ?_; exact rfl)))), xs.length - (j + 1), [(5, _), (6, .int .i64 ((j + 1 : Nat) : Int))], _, by omega, (by first | exact SubL.out | repeat (first | exact List.Sublist.refl _ | exact List.nil_sublist _ | refine .cons_cons _ ?_ | refine .cons _ ?_ | refine List.Sublist.append (List.Sublist.refl _) ?_ | exact List.sublist_append_left _ _ | refine List.Sublist.trans ?_ (List.sublist_append_right _ _))), (by repeat (first | exact .nil | refine .cons rfl ?_)), ⟨_, j + 1, _, by omega, by first | exact hD.keep hlt hc29 | exact hD.skip hlt (Decidable.not_not.1 hc29), rfl, rfl, rfl⟩⟩
      · refine c_skip ?_
        refine bq_n ?_
        refine tq_n ?_
        refine c_region ?_
        refine w_mov rfl (by (conv => lhs; whnf); first | done | rfl) ?_
        refine w_add rfl (by (conv => lhs; whnf); first | done | rfl) (by (conv => lhs; whnf); first | done | rfl) (by omega) ?_
        refine w_asg rfl (by (conv => lhs; whnf); first | done | rfl) ?_
        refine w_nil ?_
        refine tq_n ?_
        exact ⟨(by first | ((repeat (first | with_reducible exact Ag.refl | with_reducible exact Ag.ov | (with_reducible refine Ag.upd ?_ ?_; exact rfl) | with_reducible refine Ag.putn ?_ | (with_reducible refine Ag.ovs ?_ ?_; exact rfl))); done) | (repeat (first | exact Ag.refl | exact Ag.ov | (refine Ag.upd ?_ ?_; exact rfl) | refine Ag.putn ?_ | (refine Ag.ovs ?_ ?_; exact rfl)))), xs.length - (j + 1), [(5, _), (6, .int .i64 ((j + 1 : Nat) : Int))], _, by omega, (by first | exact SubL.out | repeat (first | exact List.Sublist.refl _ | exact List.nil_sublist _ | refine .cons_cons _ ?_ | refine .cons _ ?_ | refine List.Sublist.append (List.Sublist.refl _) ?_ | exact List.sublist_append_left _ _ | refine List.Sublist.trans ?_ (List.sublist_append_right _ _))), (by repeat (first | exact .nil | refine .cons rfl ?_)), ⟨_, j + 1, _, by omega, by first | exact hD.keep hlt hc29 | exact hD.skip hlt (Decidable.not_not.1 hc29), rfl, rfl, rfl⟩⟩
    · have hjj : j = xs.length := (by omega)
      subst hjj
      have hij := hD.lt
      have hzl := hD.len
      refine c_exit ?_
      refine tq_e ?_
      refine tq_e ?_
      refine bq_e ?_
      refine tq_n ?_
      refine c_seq ?_
      refine c_region ?_
      refine w_mov rfl (by (conv => lhs; whnf); first | done | rfl) ?_
      refine w_mov rfl (by (conv => lhs; whnf); first | done | rfl) ?_
      refine x_slo (l := i) (h := xs.length) rfl (by (conv => lhs; whnf); first | done | rfl) (⟨rfl, rfl⟩) (by omega) (by omega) (by omega) ?_
      refine x_clr rfl (by (conv => lhs; whnf); first | done | rfl) (.here) (by simp; omega) rfl ?_
      refine w_nil ?_
      refine tq_n ?_
      refine c_seq ?_
      refine c_region ?_
      refine w_mov rfl (by (conv => lhs; whnf); first | done | rfl) ?_
      refine w_mov rfl (by (conv => lhs; whnf); first | done | rfl) ?_
      refine x_sl0 (h := i) rfl (by (conv => lhs; whnf); first | done | rfl) (⟨rfl, rfl⟩) (by omega) ?_
      refine w_asg rfl (by (conv => lhs; whnf); first | done | rfl) ?_
      refine w_nil ?_
      refine tq_n ?_
      refine c_ret ?_
      exact rq_r (ra_t (by (conv => lhs; whnf); first | done | rfl) .nil) (List.Sublist.refl _) (⟨_, rfl, hD.fin (S := []) (Nat.le_refl _) hcc hb⟩)
end
end Go.Proofs.Ytnmhhelcaibdoaa.Pl
