/- A block's pages settled (plan.settle). -/
import Derived.Test.YtnmhhelcaibdoaaVb
namespace Go.Proofs.Ytnmhhelcaibdoaa.Pl
open Go Go.RowKit Sl
set_option linter.unusedVariables false
set_option linter.unusedSimpArgs false
def inBk (P b : Int) : Int → Bool := fun x => decide (x / P = b)
def memB (xs : List Int) : Int → Bool := fun x => decide (x ∈ xs)
/-- Which of a block's pages have come. -/
def hvL (P : Int) (pre : List Cpy) : List Bool := (List.range P.toNat).map fun i : Nat => pre.any fun c => decide (c.2 = (i : Int))
def hvF (t : Tb) (b : Int) : List Bool := (List.range t.P.toNat).map fun i : Nat => (whr t (b * t.P + i)).isSome
def ovr {α : Type} (l : List α) (o : Nat) (xs : List α) : List α := l.take o ++ (xs ++ l.drop (o + xs.length))
def setT (t : Tb) (b ph : Int) : Tb := { t with da := t.da.set b.toNat ph, ha := ovr t.ha (b * t.P).toNat (hvF t b), lo := fgt (inBk t.P b) t.lo, sp := if 0 ≤ t.sp ∧ t.sl = b then -1 else t.sp, sl := if 0 ≤ t.sp ∧ t.sl = b then 0 else t.sl, su := if 0 ≤ t.sp ∧ t.sl = b then 0 else t.su }
def goneL (t t' : Tb) : List Int := (srt (usedL t)).filter fun x => !(memB (srt (usedL t')) x)
theorem hvL_nil {P : Int} : hvL P [] = List.replicate P.toNat false := by
  unfold hvL
  apply List.ext_getElem
  · simp
  · intro i h1 h2; simp
theorem hvL_len {P : Int} {pre : List Cpy} : (hvL P pre).length = P.toNat := by simp [hvL]
theorem hvL_snoc {P : Int} {pre : List Cpy} {x : Cpy} (h0 : 0 ≤ x.2) : hvL P (pre ++ [x]) = (hvL P pre).set x.2.toNat true := by
  unfold hvL
  apply List.ext_getElem
  · simp
  · intro i h1 h2
    rw [List.getElem_set]
    simp only [List.getElem_map, List.getElem_range, List.any_append, List.any_cons, List.any_nil, Bool.or_false]
    by_cases hi : x.2.toNat = i
    · rw [if_pos hi]
      have : x.2 = (i : Int) := by omega
      simp [this]
    · rw [if_neg hi]
      have : ¬ x.2 = (i : Int) := by omega
      simp [this]
theorem cpL_mem {t : Tb} {b a o : Int} {x : Cpy} (h : x ∈ cpL t b a o) : a ≤ x.2 ∧ x.2 < o ∧ whr t (b * t.P + x.2) = some x.1 := by
  unfold cpL at h
  obtain ⟨i, hi, he⟩ := List.mem_filterMap.1 h
  have hi := List.mem_range.1 hi
  unfold cpO at he
  cases hw : whr t (b * t.P + (a + (i : Int))) with
  | none => rw [hw] at he; cases he
  | some p => rw [hw] at he; cases he; exact ⟨by show a ≤ a + (i : Int); omega, by show a + (i : Int) < o; omega, hw⟩
theorem cpL_has {t : Tb} {b a o q : Int} {p : Int × Int} (h1 : a ≤ q) (h2 : q < o) (hw : whr t (b * t.P + q) = some p) : (p, q) ∈ cpL t b a o := by
  unfold cpL
  refine List.mem_filterMap.2 ⟨(q - a).toNat, List.mem_range.2 (by omega), ?_⟩
  have : a + ((q - a).toNat : Int) = q := by omega
  simp only [cpO, this, hw]; rfl
theorem hvL_all {t : Tb} {b : Int} : hvL t.P (cpL t b 0 t.P) = hvF t b := by
  unfold hvL hvF
  apply List.map_congr_left
  intro i hi
  have hi := List.mem_range.1 hi
  rw [Bool.eq_iff_iff, List.any_eq_true]
  constructor
  · rintro ⟨x, hx, he⟩
    have he : x.2 = (i : Int) := by simpa using he
    obtain ⟨_, _, hw⟩ := cpL_mem hx
    rw [← he, hw]; rfl
  · intro h
    obtain ⟨p, hp⟩ := Option.isSome_iff_exists.1 h
    exact ⟨(p, (i : Int)), cpL_has (by omega) (by omega) hp, by simp⟩
theorem hvF_len {t : Tb} {b : Int} : (hvF t b).length = t.P.toNat := by simp [hvF]
theorem ovr_len {α : Type} {l xs : List α} {o : Nat} (h : o + xs.length ≤ l.length) : (ovr l o xs).length = l.length := by
  unfold ovr; simp; omega
theorem setAll_ovr : ∀ (vs cs : List Value) (o : Nat), o + vs.length ≤ cs.length → setAll cs o vs = ovr cs o vs
  | [], cs, o, h => by simp [setAll, ovr]
  | v :: vs, cs, o, h => by
    simp only [List.length_cons] at h
    simp only [setAll]
    rw [setAll_ovr vs _ (o + 1) (by simp; omega)]
    unfold ovr
    rw [List.take_succ_eq_append_getElem (by simp; omega), List.take_set_of_le (Nat.le_refl _), List.drop_set_of_lt (by omega)]
    simp [Nat.add_assoc, Nat.add_comm 1]
theorem ovr_map {α β : Type} {f : α → β} {l xs : List α} {o : Nat} : (ovr l o xs).map f = ovr (l.map f) o (xs.map f) := by
  simp [ovr, List.map_take, List.map_drop]
theorem ovr_app {α : Type} {l xs sp : List α} {o : Nat} (h : o + xs.length ≤ l.length) : ovr (l ++ sp) o xs = ovr l o xs ++ sp := by
  unfold ovr
  rw [List.take_append_of_le_length (by omega), List.drop_append_of_le_length (by omega)]
  simp
/-- The table's own truths, a block's overwritten. -/
theorem have_osl {ha hv : List Bool} {o b cap : Nat} {sp : List Value} (h : o + hv.length ≤ ha.length) (hc : ha.length ≤ cap) (hsp : sp.length = (cap - ha.length) * 1) {dl : Nat} (hd : hv.length ≤ dl) : OSl 4 1 (.slice (some ⟨b, 0, none⟩) ha.length cap) ((ovr ha o hv).flatMap Sl.encB) (ovr ha o hv).length [(b, B 4 (setAll (ha.flatMap Sl.encB ++ sp) (0 + o * 1) ((hv.map Value.bool).take (min hv.length dl * 1))))] := by
  have e : setAll (ha.flatMap Sl.encB ++ sp) (0 + o * 1) ((hv.map Value.bool).take (min hv.length dl * 1)) = (ovr ha o hv).flatMap Sl.encB ++ sp := by
    rw [Nat.min_eq_left hd, Nat.mul_one, Nat.zero_add, Nat.mul_one, List.take_of_length_le (by simp), flatB, flatB, setAll_ovr _ _ _ (by simp; omega), ovr_app (by simpa using h), ovr_map]
  rw [e, ovr_len h]
  exact .own (by rw [flatB, List.length_map, ovr_len h]; omega) hc hsp
theorem data_osl {da : List Int} {o b cap : Nat} {x : Int} {sp : List Value} (h : o < da.length) (hc : da.length ≤ cap) (hsp : sp.length = (cap - da.length) * 1) : OSl 3 1 (.slice (some ⟨b, 0, none⟩) da.length cap) ((da.set o x).flatMap Sl.encI) (da.set o x).length [(b, B 3 ((da.flatMap Sl.encI ++ sp).set (0 + o * 1) (.int .i64 x)))] := by
  have e : (da.flatMap Sl.encI ++ sp).set (0 + o * 1) (.int .i64 x) = (da.set o x).flatMap Sl.encI ++ sp := by
    rw [flatI, flatI, del_cells h]
  rw [e, List.length_set]
  exact .own (by rw [flatI]; simp) hc hsp
theorem perm_fr {A B C D X T : Own} : (X ++ (A ++ (B ++ (C ++ (D ++ T))))).Perm (A ++ (B ++ (C ++ (D ++ (X ++ T))))) := by
  have h : ∀ (X A R : Own), (X ++ (A ++ R)).Perm (A ++ (X ++ R)) := fun X A R => by
    rw [← List.append_assoc, ← List.append_assoc]; exact List.Perm.append_right _ List.perm_append_comm
  refine (h X A _).trans (List.Perm.append_left A ?_)
  refine (h X B _).trans (List.Perm.append_left B ?_)
  refine (h X C _).trans (List.Perm.append_left C ?_)
  exact h X D _
section
variable {w0 : World} {L : Own}
theorem settle1_g {b3 b4 : Nat} {x P b : Int} (hx0 : 0 ≤ x) (hx1 : x ≤ 8192) (hP : 0 < P) (h3 : Rd w0 L ⟨b3, 0 + 0, none⟩ (.int .i64 P)) (h4 : Rd w0 L ⟨b4, 0, none⟩ (.int .i64 b)) : Gives Try.prog w0 L 111 [.int .i64 x, .pointer (some ⟨b3, 0, none⟩), .pointer (some ⟨b4, 0, none⟩)] (fun v' L' => v' = .bool (decide (inBk P b x = true)) ∧ L' = L) := by
  refine enterP Try.func111 rfl Try.ntmps111 Try.results111 (Nat.le_of_ble_eq_true rfl) fun w hM => ?_
  have h3' := h3.at hM
  have h4' := h4.at hM
  clear hM h3 h4
  refine c_seq ?_
  refine c_region ?_
  refine w_asg rfl (by (conv => lhs; whnf); first | done | rfl) ?_
  refine w_nil ?_
  refine tq_n ?_
  refine c_seq ?_
  refine c_draw mixed (by kernel_rfl) ?_
  refine w_mov rfl (by (conv => lhs; whnf); first | done | rfl) ?_
  refine x_fa rfl (by (conv => lhs; whnf); first | done | rfl) ?_
  refine x_ld rfl (by (conv => lhs; whnf); first | done | rfl) (h3') ?_
  refine w_quo rfl (by (conv => lhs; whnf); first | done | rfl) (by (conv => lhs; whnf); first | done | rfl) (by omega) (by omega) (by omega) ?_
  refine x_ld rfl (by (conv => lhs; whnf); first | done | rfl) (h4') ?_
  refine w_eql rfl (by (conv => lhs; whnf); first | done | rfl) (by (conv => lhs; whnf); first | done | rfl) ?_
  refine w_asg rfl (by (conv => lhs; whnf); first | done | rfl) ?_
  refine w_nil ?_
  refine tq_n ?_
  refine c_ret ?_
  exact rq_r (ra_t (by (conv => lhs; whnf); first | done | rfl) .nil) (List.nil_sublist _) (⟨by unfold inBk; rw [← dec2]; rfl, rfl⟩)
theorem settle2_g {b1 : Nat} {v : Value} {xs : List Int} {x : Int} (h1 : Rd w0 L ⟨b1, 0, none⟩ v) (h2 : IL w0 L v xs) : Gives Try.prog w0 L 113 [.int .i64 x, .pointer (some ⟨b1, 0, none⟩)] (fun v' L' => v' = .bool (decide (memB xs x = true)) ∧ L' = L) := by
  refine enterP Try.func113 rfl Try.ntmps113 Try.results113 (Nat.le_of_ble_eq_true rfl) fun w hM => ?_
  have h1' := h1.at hM
  have h2' := h2.at hM
  clear hM h1 h2
  refine c_seq ?_
  refine c_region ?_
  refine w_asg rfl (by (conv => lhs; whnf); first | done | rfl) ?_
  refine w_nil ?_
  refine tq_n ?_
  refine c_seq ?_
  refine c_region ?_
  refine x_ld rfl (by (conv => lhs; whnf); first | done | rfl) (h1') ?_
  refine w_mov rfl (by (conv => lhs; whnf); first | done | rfl) ?_
  refine x_callp (by decide) (contains_g h2') rfl rfl rfl ?_
  refine w_asg rfl (by (conv => lhs; whnf); first | done | rfl) ?_
  refine w_nil ?_
  refine tq_n ?_
  refine c_ret ?_
  exact rq_r (ra_t (by (conv => lhs; whnf); first | done | rfl) .nil) (List.nil_sublist _) (⟨by unfold memB; rw [← dec2]; rfl, rfl⟩)
theorem copies_g {a b : Int} {t : Tb} {Ad Ah Al : Option Addr} {cd ch cl : Nat} : Gives Try.prog w0 L 110 [.agg (cT t Ad cd Ah ch Al cl).toArray, .int .i64 b, .int .i64 a] (fun v' L' => ∃ b3 b4 b5, v' = .func (.func 135) #[] #[.pointer (some ⟨b5, 0, none⟩), .pointer (some ⟨b3, 0, none⟩), .pointer (some ⟨b4, 0, none⟩)] ∧ L' = (b5, B 3 [.int .i64 a]) :: (b4, B 3 [.int .i64 b]) :: (b3, B 43 (cT t Ad cd Ah ch Al cl)) :: L) := by
  refine enter Try.func110 rfl Try.ntmps110 Try.results110 (Nat.le_of_ble_eq_true rfl) ?_
  refine c_seq ?_
  refine c_region ?_
  refine x_boxa rfl (by (conv => lhs; whnf); first | done | rfl) ?_
  intro b3
  refine x_box1 rfl (by (conv => lhs; whnf); first | done | rfl) rfl ?_
  intro b4
  refine x_box1 rfl (by (conv => lhs; whnf); first | done | rfl) rfl ?_
  intro b5
  refine w_asg rfl (by (conv => lhs; whnf); first | done | rfl) ?_
  refine w_nil ?_
  refine tq_n ?_
  refine c_seq ?_
  refine c_region ?_
  refine x_fun rfl .nil (.cons (by (conv => lhs; whnf); first | done | rfl) (.cons (by (conv => lhs; whnf); first | done | rfl) (.cons (by (conv => lhs; whnf); first | done | rfl) .nil))) ?_
  refine w_asg rfl (by (conv => lhs; whnf); first | done | rfl) ?_
  refine w_nil ?_
  refine tq_n ?_
  refine c_ret ?_
  exact rq_r (ra_t (by (conv => lhs; whnf); first | done | rfl) .nil) (List.Sublist.refl _) (⟨_, _, _, rfl, rfl⟩)
end
end Go.Proofs.Ytnmhhelcaibdoaa.Pl
