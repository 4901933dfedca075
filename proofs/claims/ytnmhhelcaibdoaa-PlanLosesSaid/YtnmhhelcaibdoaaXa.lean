/- What a merge copies, of tables: plan's iterators Fold and Rest, and the law's lists of what they go through. -/
import Derived.Test.YtnmhhelcaibdoaaVf
import Derived.Test.YtnmhhelcaibdoaaPs
import Derived.Test.YtnmhhelcaibdoaaSlO
namespace Go.Proofs.Ytnmhhelcaibdoaa.Pl
open Go Go.RowKit Sl
set_option linter.unusedVariables false
set_option linter.unusedSimpArgs false
/-- A copy's three cells. -/
def enC3 (x : Cpy) : List Value := [.int .i64 x.1.1, .int .i64 x.1.2, .int .i64 x.2]
/-- What Fold goes through, what Rest does; of a table that may be. -/
def foldA (t : Tb) (b : Int) : List Cpy := if 0 ≤ b ∧ b ≤ t.G - 1 then cpL t b 0 t.P else []
def restA (t : Tb) : List Cpy := if t.sp < 0 then [] else cpL t t.sl t.su t.P
/-- A function that goes through xs; what it leans on is in S. -/
def Itr (S : Own) (gk : Nat) (lb : List Value) (xs : List Cpy) : Prop := ∀ (w0 : World) (l : Nat) (J : List Cpy → Own → Prop), (∀ pre M, J pre M → S.Sublist M) → (∀ pre x M, (pre ++ [x]) <+: xs → J pre M → YldG Try.prog w0 M l (enC x) (fun v M' => v = .bool true ∧ J (pre ++ [x]) M')) →
  ∀ M, J [] M → Gives Try.prog w0 M gk (.func (.yield l) #[] #[] :: lb) (fun v M' => J xs M')
theorem itr_copies {S' : Own} {b5 b4 b3 : Nat} {a b : Int} {t : Tb} {Ad Ah Al : Option Addr} {cd ch cl : Nat} (hLi : Lists t) (hb0 : 0 ≤ b) (hb1 : b ≤ t.G - 1) (ha0 : 0 ≤ a) (ha1 : a ≤ t.P) (ht : TabO S' (.agg (cT t Ad cd Ah ch Al cl).toArray) t) :
    Itr ((b5, B 3 [.int .i64 a]) :: (b4, B 3 [.int .i64 b]) :: (b3, B 43 (cT t Ad cd Ah ch Al cl)) :: S') 135 [.pointer (some ⟨b5, 0, none⟩), .pointer (some ⟨b3, 0, none⟩), .pointer (some ⟨b4, 0, none⟩)] (cpL t b a t.P) :=
  fun w0 l J hJ hy => copies1_g hLi hb0 hb1 ha0 ha1 (fun pre M hM => (cpf_of (by first | exact HasC.out | exact PutC.out) (by first | exact HasC.out | exact PutC.out) (by first | exact HasC.out | exact PutC.out) (ht.use (by first | exact SubL.out | repeat (first | exact .refl _ | exact List.nil_sublist _ | refine .cons_cons _ ?_ | refine .cons _ ?_ | refine .append (.refl _) ?_ | exact List.sublist_append_left _ _ | refine .trans ?_ (List.sublist_append_right _ _))))).sub (hJ pre M hM)) hy
abbrev CL (w0 : World) (L : Own) (v : Value) (xs : List Cpy) : Prop := SlR w0 L enC3 v xs
theorem cpL_len {t : Tb} {b a o : Int} : (cpL t b a o).length ≤ (o - a).toNat := by
  unfold cpL
  exact Nat.le_trans (List.length_filterMap_le _ _) (by rw [List.length_range]; exact Nat.le_refl _)
theorem foldA_len {t : Tb} {b : Int} (h : Lists t) : (foldA t b).length ≤ 32 := by
  unfold foldA
  have hP := h.1.1.1
  split
  · have := cpL_len (t := t) (b := b) (a := 0) (o := t.P); omega
  · simp
theorem restA_len {t : Tb} (h : Lists t) : (restA t).length ≤ 32 := by
  unfold restA
  have hP := h.1.1.1
  have hsu : (t.sp = -1 ∧ t.sl = 0 ∧ t.su = 0) ∨ ((0 ≤ t.sp ∧ t.sp ≤ 255) ∧ (0 ≤ t.sl ∧ t.sl ≤ t.G - 1) ∧ 0 ≤ t.su ∧ t.su ≤ t.P) := h.2.2
  split
  · simp
  · have := cpL_len (t := t) (b := t.sl) (a := t.su) (o := t.P); omega
theorem snocC {xs : List Cpy} {x : Cpy} {v : Value} {S : Own} {n : Nat} (h : OSl 118 3 v (xs.flatMap enC3 ++ [.int .i64 x.1.1, .int .i64 x.1.2, .int .i64 x.2]) (xs.length + 1) S) : OSl 118 3 v ((xs ++ [x]).flatMap enC3) (xs ++ [x]).length S := by
  rw [List.flatMap_append, List.length_append]; exact h
theorem rd3 {w0 : World} {L0 L : Own} {xs : List Cpy} {b o : Nat} (hs : L0.Sublist L) (h : ∀ i c, (xs.flatMap enC3)[i]? = some c → Rd w0 L0 ⟨b, o + i, none⟩ c) {j : Int} {x : Cpy} (hx : xs[j.toNat]? = some x) : ∀ k v, [.int .i64 x.1.1, .int .i64 x.1.2, .int .i64 x.2][k]? = some v → Rd w0 L ((⟨b, o + j.toNat * 3, none⟩ : Addr).add k) v := by
  intro k v hv
  rw [addr_add, show o + j.toNat * 3 + k = o + (j.toNat * 3 + k) by omega]
  exact (h _ _ (flat_get (enc := enC3) (s := 3) (fun _ => rfl) xs j.toNat k x v hx hv)).sub hs
section
variable {w0 : World} {L : Own}
theorem none118_g {x : Value} {M : Own} : Gives Try.prog w0 M 118 [x] (fun v M' => M' = M) := by
  refine enter Try.func118 rfl Try.ntmps118 Try.results118 (Nat.le_of_ble_eq_true rfl) ?_
  refine c_skip ?_
  exact rq_n .nil (List.Sublist.refl _) (rfl)
theorem none119_g {x : Value} {M : Own} : Gives Try.prog w0 M 119 [x] (fun v M' => M' = M) := by
  refine enter Try.func119 rfl Try.ntmps119 Try.results119 (Nat.le_of_ble_eq_true rfl) ?_
  refine c_skip ?_
  exact rq_n .nil (List.Sublist.refl _) (rfl)
theorem pfold_g {v : Value} {t : Tb} {b : Int} (h : TabR w0 L v t) : Gives Try.prog w0 L 75 [v, .int .i64 b] (fun v' L' => ∃ S, L' = S ++ L ∧ ∃ (gk : Nat) (lb : List Value), CFN Try.prog gk ∧ v' = .func (.func gk) #[] lb.toArray ∧ Itr S gk lb (foldA (mayT t) b)) := by
  refine enterB (R := fun v' S => ∃ (gk : Nat) (lb : List Value), CFN Try.prog gk ∧ v' = .func (.func gk) #[] lb.toArray ∧ Itr S gk lb (foldA (mayT t) b)) Try.func75 rfl Try.ntmps75 Try.results75 (Nat.le_of_ble_eq_true rfl) fun w hM => ?_
  have hT := h.at hM
  obtain ⟨vd, vh, vl, rfl, hd, hh, hlo⟩ := ((h).at hM).ex; obtain ⟨Ad, cd, rfl, hdc, hdl, hdA, hdR⟩ := id hd.ex; obtain ⟨Ah, ch, rfl, hhc, hhl, hhA, hhR⟩ := id hh.ex; obtain ⟨Al, cl, rfl, hlc, hll, hlA, hlR⟩ := LogR.opn hlo
  clear hM
  have hm := mayT_may t
  have hLi := hm.1
  have hcl := hLi.cl
  have hP : 4 ≤ (mayT t).P := hLi.1.1.1.1
  have hG := hLi.1.1.2.1
  refine c_seq ?_
  refine c_region ?_
  refine x_boxa rfl (by (conv => lhs; whnf) <;> rfl) ?_
  intro b2
  refine w_asg rfl (by (conv => lhs; whnf) <;> rfl) ?_
  refine w_nil ?_
  refine tq_n ?_
  refine c_seq ?_
  refine c_region ?_
  refine x_ldao rfl (by (conv => lhs; whnf) <;> rfl) (by first | exact HasC.out | exact PutC.out) rfl ?_
  refine x_call (may_g (hT.sub (List.nil_sublist _))) rfl rfl rfl ?_
  rintro _ _ ⟨S65, rfl, hS1, hS2⟩
  refine x_call (clone_g (may_R hT hS1 hS2 (by first | exact SubL.out | repeat (first | exact .refl _ | exact List.nil_sublist _ | refine .cons_cons _ ?_ | refine .cons _ ?_ | refine .append (.refl _) ?_ | exact List.sublist_append_left _ _ | refine .trans ?_ (List.sublist_append_right _ _)))) hcl) rfl rfl rfl ?_
  rintro _ _ ⟨S, rfl, Sv, Sp, Sd, Sh, rfl, vd2, vh2, vl2, lv, rfl, g1, g2, g3, g4⟩
  obtain ⟨Ad2, cd2, rfl, _⟩ := g1.form
  obtain ⟨Ah2, ch2, rfl, _⟩ := g2.form
  obtain ⟨Al2, cl2, rfl, hcl2, hAl, hRl⟩ := logs_opn g3 g4.len hcl.2.2.1
  simp only [List.append_assoc]
  refine x_stw rfl (by (conv => lhs; whnf) <;> rfl) (by (conv => lhs; whnf) <;> rfl) rfl rfl (by first | exact HasC.out | exact PutC.out) rfl ?_
  refine w_nil ?_
  refine tq_n ?_
  refine c_seq ?_
  refine c_seq ?_
  refine c_region ?_
  refine w_mov rfl (by (conv => lhs; whnf) <;> rfl) ?_
  refine x_fa rfl (by (conv => lhs; whnf) <;> rfl) ?_
  refine x_ldo rfl (by (conv => lhs; whnf) <;> rfl) (by first | exact HasC.out | exact PutC.out) (by (conv => lhs; whnf) <;> rfl) ?_
  refine w_sub rfl (by (conv => lhs; whnf) <;> rfl) (by (conv => lhs; whnf) <;> rfl) (by omega) ?_
  refine x_callp (by decide) (inRange_g _ _ _) rfl rfl rfl ?_
  refine w_notd rfl (by (conv => lhs; whnf) <;> rfl) ?_
  refine w_nil ?_
  refine tq_n ?_
  refine c_cond_d (by (conv => lhs; whnf) <;> rfl) (fun hc13 => ?_) (fun hc13 => ?_)
  · refine c_seq ?_
    refine c_region ?_
    refine w_asg rfl (by (conv => lhs; whnf) <;> rfl) ?_
    refine w_nil ?_
    refine tq_n ?_
    refine c_ret ?_
    refine tq_r ?_
    exact rq_r (ra_t (by (conv => lhs; whnf) <;> rfl) .nil) (List.nil_sublist _) (⟨118, [], inferInstance, rfl, fun w0 l J hJ hy M hM => by rw [foldA, if_neg hc13]; exact none118_g.mono fun v M' e => by rw [e]; exact hM⟩)
  · have hin := Decidable.not_not.1 hc13
    refine c_skip ?_
    refine tq_n ?_
    refine c_seq ?_
    refine c_region ?_
    refine x_ldao rfl (by (conv => lhs; whnf) <;> rfl) (by first | exact HasC.out | exact PutC.out) rfl ?_
    refine w_mov rfl (by (conv => lhs; whnf) <;> rfl) ?_
    refine x_call (copies_g) rfl rfl rfl ?_
    rintro _ _ ⟨b30, b40, b50, rfl, rfl⟩
    refine w_asg rfl (by (conv => lhs; whnf) <;> rfl) ?_
    refine w_nil ?_
    refine tq_n ?_
    refine c_ret ?_
    exact rq_r (ra_t (by (conv => lhs; whnf) <;> rfl) .nil) (show List.Sublist ((b50, _) :: (b40, _) :: (b30, _) :: (Sv ++ (Sp ++ (Sd ++ Sh)))) _ from (by first | exact SubL.out | repeat (first | exact .refl _ | exact List.nil_sublist _ | refine .cons_cons _ ?_ | refine .cons _ ?_ | refine .append (.refl _) ?_ | exact List.sublist_append_left _ _ | refine .trans ?_ (List.sublist_append_right _ _)))) (⟨135, _, inferInstance, rfl, by rw [foldA, if_pos hin]; exact itr_copies hLi hin.1 hin.2 (Int.le_refl 0) (by omega) (tabO_tw (t := mayT t) hcl g1 g2 g3 g4 (by first | exact SubL.out | repeat (first | exact .refl _ | exact List.nil_sublist _ | refine .cons_cons _ ?_ | refine .cons _ ?_ | refine .append (.refl _) ?_ | exact List.sublist_append_left _ _ | refine .trans ?_ (List.sublist_append_right _ _))) (by first | exact SubL.out | repeat (first | exact .refl _ | exact List.nil_sublist _ | refine .cons_cons _ ?_ | refine .cons _ ?_ | refine .append (.refl _) ?_ | exact List.sublist_append_left _ _ | refine .trans ?_ (List.sublist_append_right _ _))) (by first | exact SubL.out | repeat (first | exact .refl _ | exact List.nil_sublist _ | refine .cons_cons _ ?_ | refine .cons _ ?_ | refine .append (.refl _) ?_ | exact List.sublist_append_left _ _ | refine .trans ?_ (List.sublist_append_right _ _))) (by first | exact SubL.out | repeat (first | exact .refl _ | exact List.nil_sublist _ | refine .cons_cons _ ?_ | refine .cons _ ?_ | refine .append (.refl _) ?_ | exact List.sublist_append_left _ _ | refine .trans ?_ (List.sublist_append_right _ _))))⟩)
theorem prest_g {v : Value} {t : Tb} (h : TabR w0 L v t) : Gives Try.prog w0 L 78 [v] (fun v' L' => ∃ S, L' = S ++ L ∧ ∃ (gk : Nat) (lb : List Value), CFN Try.prog gk ∧ v' = .func (.func gk) #[] lb.toArray ∧ Itr S gk lb (restA (mayT t))) := by
  refine enterB (R := fun v' S => ∃ (gk : Nat) (lb : List Value), CFN Try.prog gk ∧ v' = .func (.func gk) #[] lb.toArray ∧ Itr S gk lb (restA (mayT t))) Try.func78 rfl Try.ntmps78 Try.results78 (Nat.le_of_ble_eq_true rfl) fun w hM => ?_
  have hT := h.at hM
  obtain ⟨vd, vh, vl, rfl, hd, hh, hlo⟩ := ((h).at hM).ex; obtain ⟨Ad, cd, rfl, hdc, hdl, hdA, hdR⟩ := id hd.ex; obtain ⟨Ah, ch, rfl, hhc, hhl, hhA, hhR⟩ := id hh.ex; obtain ⟨Al, cl, rfl, hlc, hll, hlA, hlR⟩ := LogR.opn hlo
  clear hM
  have hm := mayT_may t
  have hLi := hm.1
  have hcl := hLi.cl
  have hsu : ((mayT t).sp = -1 ∧ (mayT t).sl = 0 ∧ (mayT t).su = 0) ∨ ((0 ≤ (mayT t).sp ∧ (mayT t).sp ≤ 255) ∧ (0 ≤ (mayT t).sl ∧ (mayT t).sl ≤ (mayT t).G - 1) ∧ 0 ≤ (mayT t).su ∧ (mayT t).su ≤ (mayT t).P) := hLi.2.2
  refine c_seq ?_
  refine c_region ?_
  refine x_boxa rfl (by (conv => lhs; whnf) <;> rfl) ?_
  intro b1
  refine w_asg rfl (by (conv => lhs; whnf) <;> rfl) ?_
  refine w_nil ?_
  refine tq_n ?_
  refine c_seq ?_
  refine c_region ?_
  refine x_ldao rfl (by (conv => lhs; whnf) <;> rfl) (by first | exact HasC.out | exact PutC.out) rfl ?_
  refine x_call (may_g (hT.sub (List.nil_sublist _))) rfl rfl rfl ?_
  rintro _ _ ⟨S65, rfl, hS1, hS2⟩
  refine x_call (clone_g (may_R hT hS1 hS2 (by first | exact SubL.out | repeat (first | exact .refl _ | exact List.nil_sublist _ | refine .cons_cons _ ?_ | refine .cons _ ?_ | refine .append (.refl _) ?_ | exact List.sublist_append_left _ _ | refine .trans ?_ (List.sublist_append_right _ _)))) hcl) rfl rfl rfl ?_
  rintro _ _ ⟨S, rfl, Sv, Sp, Sd, Sh, rfl, vd2, vh2, vl2, lv, rfl, g1, g2, g3, g4⟩
  obtain ⟨Ad2, cd2, rfl, _⟩ := g1.form
  obtain ⟨Ah2, ch2, rfl, _⟩ := g2.form
  obtain ⟨Al2, cl2, rfl, hcl2, hAl, hRl⟩ := logs_opn g3 g4.len hcl.2.2.1
  simp only [List.append_assoc]
  refine x_stw rfl (by (conv => lhs; whnf) <;> rfl) (by (conv => lhs; whnf) <;> rfl) rfl rfl (by first | exact HasC.out | exact PutC.out) rfl ?_
  refine w_nil ?_
  refine tq_n ?_
  refine c_seq ?_
  refine c_seq ?_
  refine c_region ?_
  refine x_fa rfl (by (conv => lhs; whnf) <;> rfl) ?_
  refine x_fa rfl (by (conv => lhs; whnf) <;> rfl) ?_
  refine x_ldo rfl (by (conv => lhs; whnf) <;> rfl) (by first | exact HasC.out | exact PutC.out) (by (conv => lhs; whnf) <;> rfl) ?_
  refine w_lss rfl (by (conv => lhs; whnf) <;> rfl) (by (conv => lhs; whnf) <;> rfl) ?_
  refine w_nil ?_
  refine tq_n ?_
  refine c_cond_d (by (conv => lhs; whnf) <;> rfl) (fun hc9 => ?_) (fun hc9 => ?_)
  · refine c_seq ?_
    refine c_region ?_
    refine w_asg rfl (by (conv => lhs; whnf) <;> rfl) ?_
    refine w_nil ?_
    refine tq_n ?_
    refine c_ret ?_
    refine tq_r ?_
    exact rq_r (ra_t (by (conv => lhs; whnf) <;> rfl) .nil) (List.nil_sublist _) (⟨119, [], inferInstance, rfl, fun w0 l J hJ hy M hM => by rw [restA, if_pos hc9]; exact none119_g.mono fun v M' e => by rw [e]; exact hM⟩)
  · refine c_skip ?_
    refine tq_n ?_
    refine c_seq ?_
    refine c_region ?_
    refine x_ldao rfl (by (conv => lhs; whnf) <;> rfl) (by first | exact HasC.out | exact PutC.out) rfl ?_
    refine x_fa rfl (by (conv => lhs; whnf) <;> rfl) ?_
    refine x_fa rfl (by (conv => lhs; whnf) <;> rfl) ?_
    refine x_ldo rfl (by (conv => lhs; whnf) <;> rfl) (by first | exact HasC.out | exact PutC.out) (by (conv => lhs; whnf) <;> rfl) ?_
    refine x_fa rfl (by (conv => lhs; whnf) <;> rfl) ?_
    refine x_fa rfl (by (conv => lhs; whnf) <;> rfl) ?_
    refine x_ldo rfl (by (conv => lhs; whnf) <;> rfl) (by first | exact HasC.out | exact PutC.out) (by (conv => lhs; whnf) <;> rfl) ?_
    refine x_call (copies_g) rfl rfl rfl ?_
    rintro _ _ ⟨b30, b40, b50, rfl, rfl⟩
    refine w_asg rfl (by (conv => lhs; whnf) <;> rfl) ?_
    refine w_nil ?_
    refine tq_n ?_
    refine c_ret ?_
    exact rq_r (ra_t (by (conv => lhs; whnf) <;> rfl) .nil) (show List.Sublist ((b50, _) :: (b40, _) :: (b30, _) :: (Sv ++ (Sp ++ (Sd ++ Sh)))) _ from (by first | exact SubL.out | repeat (first | exact .refl _ | exact List.nil_sublist _ | refine .cons_cons _ ?_ | refine .cons _ ?_ | refine .append (.refl _) ?_ | exact List.sublist_append_left _ _ | refine .trans ?_ (List.sublist_append_right _ _)))) (⟨135, _, inferInstance, rfl, by rw [restA, if_neg hc9]; exact itr_copies hLi (by omega) (by omega) (by omega) (by omega) (tabO_tw (t := mayT t) hcl g1 g2 g3 g4 (by first | exact SubL.out | repeat (first | exact .refl _ | exact List.nil_sublist _ | refine .cons_cons _ ?_ | refine .cons _ ?_ | refine .append (.refl _) ?_ | exact List.sublist_append_left _ _ | refine .trans ?_ (List.sublist_append_right _ _))) (by first | exact SubL.out | repeat (first | exact .refl _ | exact List.nil_sublist _ | refine .cons_cons _ ?_ | refine .cons _ ?_ | refine .append (.refl _) ?_ | exact List.sublist_append_left _ _ | refine .trans ?_ (List.sublist_append_right _ _))) (by first | exact SubL.out | repeat (first | exact .refl _ | exact List.nil_sublist _ | refine .cons_cons _ ?_ | refine .cons _ ?_ | refine .append (.refl _) ?_ | exact List.sublist_append_left _ _ | refine .trans ?_ (List.sublist_append_right _ _))) (by first | exact SubL.out | repeat (first | exact .refl _ | exact List.nil_sublist _ | refine .cons_cons _ ?_ | refine .cons _ ?_ | refine .append (.refl _) ?_ | exact List.sublist_append_left _ _ | refine .trans ?_ (List.sublist_append_right _ _))))⟩)
theorem lfold_g {v : Value} {t : Tb} {b : Int} (h : TabR w0 L v t) : Gives Try.prog w0 L 37 [v, .int .i64 b] (fun v' L' => ∃ S, L' = S ++ L ∧ OSl 118 3 v' ((foldA (mayT t) b).flatMap enC3) (foldA (mayT t) b).length S) := by
  refine enterMB (R := fun v' S => OSl 118 3 v' ((foldA (mayT t) b).flatMap enC3) (foldA (mayT t) b).length S) Try.func37 rfl Try.ntmps37 Try.results37 (Nat.le_of_ble_eq_true rfl) fun w hM => ?_
  have hT := h.at hM
  obtain ⟨vd, vh, vl, rfl, hd, hh, hlo⟩ := ((h).at hM).ex; obtain ⟨Ad, cd, rfl, hdc, hdl, hdA, hdR⟩ := id hd.ex; obtain ⟨Ah, ch, rfl, hhc, hhl, hhA, hhR⟩ := id hh.ex; obtain ⟨Al, cl, rfl, hlc, hll, hlA, hlR⟩ := LogR.opn hlo
  clear hM
  have hfl := foldA_len (b := b) (mayT_may t).1
  refine m_seq ?_
  refine c_region ?_
  refine x_boxa rfl (by (conv => lhs; whnf) <;> rfl) ?_
  intro b2
  refine w_asg rfl (by (conv => lhs; whnf) <;> rfl) ?_
  refine w_nil ?_
  refine tm_n ?_
  refine m_seq ?_
  refine c_region ?_
  refine x_ldao rfl (by (conv => lhs; whnf) <;> rfl) (by first | exact HasC.out | exact PutC.out) rfl ?_
  refine w_mov rfl (by (conv => lhs; whnf) <;> rfl) ?_
  refine x_call (pfold_g (hT.sub (List.nil_sublist _))) rfl rfl rfl ?_
  rintro _ _ ⟨S75, rfl, gk, lb, hgk, rfl, hI⟩
  refine w_asg rfl (by (conv => lhs; whnf) <;> rfl) ?_
  refine w_nil ?_
  refine tm_n ?_
  refine m_seq ?_
  refine c_seq ?_
  refine c_region ?_
  refine w_mov rfl (by (conv => lhs; whnf) <;> rfl) ?_
  refine x_eqfn Try.underlying120 rfl (by (conv => lhs; whnf) <;> rfl) (by (conv => lhs; whnf) <;> rfl) ?_
  refine w_nil ?_
  refine tq_n ?_
  refine c_cond_f rfl ?_
  refine c_skip ?_
  refine tm_n ?_
  refine m_seq ?_
  refine c_region ?_
  refine x_al rfl ?_
  intro b6
  refine w_nil ?_
  refine tm_n ?_
  refine m_seqT ?_
  refine t_seq ?_
  refine c_region ?_
  refine w_mov rfl (by (conv => lhs; whnf) <;> rfl) ?_
  refine w_nil ?_
  refine tm_n ?_
  refine m_range (enC) (foldA (mayT t) b) (fun pre M => ∃ (v6 : Value) (S6 : Own), OSl 118 3 v6 (pre.flatMap enC3) pre.length S6 ∧ M = S6 ++ ((b6, B 86 [v6]) :: (S75 ++ [(b2, B 43 (cT t Ad cd Ah ch Al cl))]))) (by (conv => lhs; whnf) <;> rfl) CFN.out (fun _ => rfl) (⟨_, List.Perm.refl _, List.Sublist.refl _⟩) (⟨.slice none 0 0, [], .nil, rfl⟩) (fun w0 l J hJ hy => hI w0 l J (fun pre M hM => by obtain ⟨L1, hs, v6, S6, _, rfl⟩ := hJ pre M hM; exact List.Sublist.trans (by first | exact SubL.out | repeat (first | exact .refl _ | exact List.nil_sublist _ | refine .cons_cons _ ?_ | refine .cons _ ?_ | refine .append (.refl _) ?_ | exact List.sublist_append_left _ _ | refine .trans ?_ (List.sublist_append_right _ _))) hs) hy) ?_ ?_
  · intro l o o2 x0 pre x L1 hpre
    rintro ⟨v6, S6, hS6, rfl⟩
    refine rnd ?_
    have hpl := hpre.length_le
    rw [List.length_append, List.length_singleton] at hpl
    refine c_region ?_
    refine x_al rfl ?_
    intro b7
    refine x_stw rfl (by (conv => lhs; whnf) <;> rfl) (by (conv => lhs; whnf) <;> rfl) rfl rfl (by first | exact HasC.out | exact PutC.out) rfl ?_
    refine w_nil ?_
    refine asg_n ?_
    refine c_block ?_
    refine c_region ?_
    refine x_ldo rfl (by (conv => lhs; whnf) <;> rfl) (by first | exact HasC.out | exact PutC.out) (by (conv => lhs; whnf) <;> rfl) ?_
    refine x_ldao rfl (by (conv => lhs; whnf) <;> rfl) (by first | exact HasC.out | exact PutC.out) rfl ?_
    refine x_bs1 rfl (by (conv => lhs; whnf) <;> rfl) rfl rfl rfl rfl ?_
    intro b17
    refine x_app rfl (by (conv => lhs; whnf) <;> rfl) (by (conv => lhs; whnf) <;> rfl) ((TakS.out (S := S6))) (hS6) (xs_new (by first | exact HasC.out | exact PutC.out)) (rfl) (rfl) (by omega) (by decide) ?_
    rintro v8 S8 hS8
    refine x_st1 rfl (by (conv => lhs; whnf) <;> rfl) (by (conv => lhs; whnf) <;> rfl) (hS8.one) (by first | exact HasC.out | exact PutC.out) rfl ?_
    refine w_nil ?_
    refine bq_n ?_
    refine bod_n ?_
    exact ⟨_, in_x (by first | exact SubL.out | repeat (first | exact .refl _ | exact List.nil_sublist _ | refine .cons_cons _ ?_ | refine .cons _ ?_ | refine .append (.refl _) ?_ | exact List.sublist_append_left _ _ | refine .trans ?_ (List.sublist_append_right _ _))), v8, S8, snocC (n := 0) hS8, rfl⟩
  · intro d L1
    rintro ⟨v6, S6, hS6, rfl⟩
    refine m_seq ?_
    refine c_region ?_
    refine x_ldo rfl (by (conv => lhs; whnf) <;> rfl) (by first | exact HasC.out | exact PutC.out) (by (conv => lhs; whnf) <;> rfl) ?_
    refine w_asg rfl (by (conv => lhs; whnf) <;> rfl) ?_
    refine w_nil ?_
    refine tm_n ?_
    refine m_of ?_
    refine c_ret ?_
    skip
    refine kq_1 ?_
    exact rq_r (ra_t (by (conv => lhs; whnf) <;> rfl) .nil) (by first | exact SubL.out | repeat (first | exact .refl _ | exact List.nil_sublist _ | refine .cons_cons _ ?_ | refine .cons _ ?_ | refine .append (.refl _) ?_ | exact List.sublist_append_left _ _ | refine .trans ?_ (List.sublist_append_right _ _))) (hS6)
theorem lrest_g {v : Value} {t : Tb} (h : TabR w0 L v t) : Gives Try.prog w0 L 39 [v] (fun v' L' => ∃ S, L' = S ++ L ∧ OSl 118 3 v' ((restA (mayT t)).flatMap enC3) (restA (mayT t)).length S) := by
  refine enterMB (R := fun v' S => OSl 118 3 v' ((restA (mayT t)).flatMap enC3) (restA (mayT t)).length S) Try.func39 rfl Try.ntmps39 Try.results39 (Nat.le_of_ble_eq_true rfl) fun w hM => ?_
  have hT := h.at hM
  obtain ⟨vd, vh, vl, rfl, hd, hh, hlo⟩ := ((h).at hM).ex; obtain ⟨Ad, cd, rfl, hdc, hdl, hdA, hdR⟩ := id hd.ex; obtain ⟨Ah, ch, rfl, hhc, hhl, hhA, hhR⟩ := id hh.ex; obtain ⟨Al, cl, rfl, hlc, hll, hlA, hlR⟩ := LogR.opn hlo
  clear hM
  have hfl := restA_len (mayT_may t).1
  refine m_seq ?_
  refine c_region ?_
  refine x_boxa rfl (by (conv => lhs; whnf) <;> rfl) ?_
  intro b1
  refine w_asg rfl (by (conv => lhs; whnf) <;> rfl) ?_
  refine w_nil ?_
  refine tm_n ?_
  refine m_seq ?_
  refine c_region ?_
  refine x_ldao rfl (by (conv => lhs; whnf) <;> rfl) (by first | exact HasC.out | exact PutC.out) rfl ?_
  refine x_call (prest_g (hT.sub (List.nil_sublist _))) rfl rfl rfl ?_
  rintro _ _ ⟨S75, rfl, gk, lb, hgk, rfl, hI⟩
  refine w_asg rfl (by (conv => lhs; whnf) <;> rfl) ?_
  refine w_nil ?_
  refine tm_n ?_
  refine m_seq ?_
  refine c_seq ?_
  refine c_region ?_
  refine w_mov rfl (by (conv => lhs; whnf) <;> rfl) ?_
  refine x_eqfn Try.underlying120 rfl (by (conv => lhs; whnf) <;> rfl) (by (conv => lhs; whnf) <;> rfl) ?_
  refine w_nil ?_
  refine tq_n ?_
  refine c_cond_f rfl ?_
  refine c_skip ?_
  refine tm_n ?_
  refine m_seq ?_
  refine c_region ?_
  refine x_al rfl ?_
  intro b4
  refine w_nil ?_
  refine tm_n ?_
  refine m_seqT ?_
  refine t_seq ?_
  refine c_region ?_
  refine w_mov rfl (by (conv => lhs; whnf) <;> rfl) ?_
  refine w_nil ?_
  refine tm_n ?_
  refine m_range (enC) (restA (mayT t)) (fun pre M => ∃ (v6 : Value) (S6 : Own), OSl 118 3 v6 (pre.flatMap enC3) pre.length S6 ∧ M = S6 ++ ((b4, B 86 [v6]) :: (S75 ++ [(b1, B 43 (cT t Ad cd Ah ch Al cl))]))) (by (conv => lhs; whnf) <;> rfl) CFN.out (fun _ => rfl) (⟨_, List.Perm.refl _, List.Sublist.refl _⟩) (⟨.slice none 0 0, [], .nil, rfl⟩) (fun w0 l J hJ hy => hI w0 l J (fun pre M hM => by obtain ⟨L1, hs, v6, S6, _, rfl⟩ := hJ pre M hM; exact List.Sublist.trans (by first | exact SubL.out | repeat (first | exact .refl _ | exact List.nil_sublist _ | refine .cons_cons _ ?_ | refine .cons _ ?_ | refine .append (.refl _) ?_ | exact List.sublist_append_left _ _ | refine .trans ?_ (List.sublist_append_right _ _))) hs) hy) ?_ ?_
  · intro l o o2 x0 pre x L1 hpre
    rintro ⟨v6, S6, hS6, rfl⟩
    refine rnd ?_
    have hpl := hpre.length_le
    rw [List.length_append, List.length_singleton] at hpl
    refine c_region ?_
    refine x_al rfl ?_
    intro b5
    refine x_stw rfl (by (conv => lhs; whnf) <;> rfl) (by (conv => lhs; whnf) <;> rfl) rfl rfl (by first | exact HasC.out | exact PutC.out) rfl ?_
    refine w_nil ?_
    refine asg_n ?_
    refine c_block ?_
    refine c_region ?_
    refine x_ldo rfl (by (conv => lhs; whnf) <;> rfl) (by first | exact HasC.out | exact PutC.out) (by (conv => lhs; whnf) <;> rfl) ?_
    refine x_ldao rfl (by (conv => lhs; whnf) <;> rfl) (by first | exact HasC.out | exact PutC.out) rfl ?_
    refine x_bs1 rfl (by (conv => lhs; whnf) <;> rfl) rfl rfl rfl rfl ?_
    intro b14
    refine x_app rfl (by (conv => lhs; whnf) <;> rfl) (by (conv => lhs; whnf) <;> rfl) ((TakS.out (S := S6))) (hS6) (xs_new (by first | exact HasC.out | exact PutC.out)) (rfl) (rfl) (by omega) (by decide) ?_
    rintro v8 S8 hS8
    refine x_st1 rfl (by (conv => lhs; whnf) <;> rfl) (by (conv => lhs; whnf) <;> rfl) (hS8.one) (by first | exact HasC.out | exact PutC.out) rfl ?_
    refine w_nil ?_
    refine bq_n ?_
    refine bod_n ?_
    exact ⟨_, in_x (by first | exact SubL.out | repeat (first | exact .refl _ | exact List.nil_sublist _ | refine .cons_cons _ ?_ | refine .cons _ ?_ | refine .append (.refl _) ?_ | exact List.sublist_append_left _ _ | refine .trans ?_ (List.sublist_append_right _ _))), v8, S8, snocC (n := 0) hS8, rfl⟩
  · intro d L1
    rintro ⟨v6, S6, hS6, rfl⟩
    refine m_seq ?_
    refine c_region ?_
    refine x_ldo rfl (by (conv => lhs; whnf) <;> rfl) (by first | exact HasC.out | exact PutC.out) (by (conv => lhs; whnf) <;> rfl) ?_
    refine w_asg rfl (by (conv => lhs; whnf) <;> rfl) ?_
    refine w_nil ?_
    refine tm_n ?_
    refine m_of ?_
    refine c_ret ?_
    skip
    refine kq_1 ?_
    exact rq_r (ra_t (by (conv => lhs; whnf) <;> rfl) .nil) (by first | exact SubL.out | repeat (first | exact .refl _ | exact List.nil_sublist _ | refine .cons_cons _ ?_ | refine .cons _ ?_ | refine .append (.refl _) ?_ | exact List.sublist_append_left _ _ | refine .trans ?_ (List.sublist_append_right _ _))) (hS6)
end
end Go.Proofs.Ytnmhhelcaibdoaa.Pl
