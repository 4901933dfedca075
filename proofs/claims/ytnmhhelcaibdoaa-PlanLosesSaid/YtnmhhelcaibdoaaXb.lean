/- A flash: the least block that is free, erasing, copying. -/
import Derived.Test.YtnmhhelcaibdoaaXa
namespace Go.Proofs.Ytnmhhelcaibdoaa.Pl
open Go Go.RowKit Sl
set_option linter.unusedVariables false
set_option linter.unusedSimpArgs false
instance ms_72 : CMS Try.prog 72 29 := ⟨⟨3, _, Try.underlying72, Try.underlying29, by kernel_rfl⟩⟩
abbrev Fl := Int × Int → Option Int
/-- Block n's first j pages erased. -/
def er (φ : Fl) (n : Int) (j : Int) : Fl := fun k => if k.1 = n ∧ 0 ≤ k.2 ∧ k.2 < j then none else φ k
def erL (φ : Fl) (xs : List Int) : Fl := xs.foldl (fun φ n => er φ n 32) φ
def cp1 (ph : Int) (φ : Fl) (c : Cpy) : Fl := match φ c.1 with
  | some v => fset φ (ph, c.2) (some v)
  | none => φ
def cpF (φ : Fl) (xs : List Cpy) (ph : Int) : Fl := xs.foldl (cp1 ph) φ
theorem er_zero {φ : Fl} {n : Int} : er φ n 0 = φ := by
  funext k; unfold er; rw [if_neg (by omega)]
theorem er_step {φ : Fl} {n : Int} {j : Nat} : fset (er φ n j) (n, (j : Int)) none = er φ n ((j + 1 : Nat) : Int) := by
  funext k
  unfold fset er
  by_cases h : k = (n, (j : Int))
  · subst h; rw [if_pos rfl, if_pos ⟨rfl, by omega, by show (j : Int) < _; omega⟩]
  · rw [if_neg h]
    by_cases h2 : k.1 = n ∧ 0 ≤ k.2 ∧ k.2 < (j : Int)
    · rw [if_pos h2, if_pos ⟨h2.1, h2.2.1, by omega⟩]
    · rw [if_neg h2, if_neg (fun h3 => h2 ⟨h3.1, h3.2.1, by
        have : k.2 ≠ j := fun e => h (Prod.ext h3.1 e)
        omega⟩)]
theorem erL_snoc {φ : Fl} {xs : List Int} {n : Int} : erL φ (xs ++ [n]) = er (erL φ xs) n 32 := by unfold erL; rw [List.foldl_append]; rfl
theorem cpF_snoc {φ : Fl} {xs : List Cpy} {c : Cpy} {ph : Int} : cpF φ (xs ++ [c]) ph = cp1 ph (cpF φ xs ph) c := by unfold cpF; rw [List.foldl_append]; rfl
theorem SlR.rd {α : Type} {enc : α → List Value} {w0 : World} {L : Own} {A : Option Addr} {cap n : Nat} {xs : List α} (h : SlR w0 L enc (.slice A n cap) xs) : ∀ i c, (xs.flatMap enc)[i]? = some c → Rd w0 L ⟨bk A, of_ A + i, none⟩ c := by
  obtain ⟨A', c', e, _, _, _, hR⟩ := h.ex; cases e; exact hR
section
variable {w0 : World} {L : Own}
theorem ffresh_g {bf : Nat} {c0 c1 c2 c3 c4 c5 c6 c7 c8 : Value} {t : Tb} (hr : ∀ i v, [c0, c1, c2, c3, c4, c5, c6, c7, c8][i]? = some v → Rd w0 L ((⟨bf, 0, none⟩ : Addr).add i) v) (hT : TabR w0 L (.agg #[c0, c1, c2, c3, c4, c5, c6, c7, c8]) t) (hm : May t) (hf : ∃ x, frsh t x) :
    Gives Try.prog w0 L 114 [.pointer (some ⟨bf, 0, none⟩)] (fun v' L' => (∃ n, v' = .int .i64 n ∧ frsh t n) ∧ L' = L) := by
  refine Gives.mono (R := fun v' L' => ∃ S, L' = S ++ L ∧ (∃ n, v' = .int .i64 n ∧ frsh t n) ∧ S = []) (enterB (R := fun v' S => (∃ n, v' = .int .i64 n ∧ frsh t n) ∧ S = []) Try.func114 rfl Try.ntmps114 Try.results114 (Nat.le_of_ble_eq_true rfl) fun w hM => ?_) (fun v' L' ⟨S, h1, h2, h3⟩ => ⟨h2, by rw [h1, h3]; rfl⟩)
  have hT := hT.at hM
  have hr := fun i v h => (hr i v h).at hM
  clear hM
  have hul := usedL_len hm.1
  refine c_seq ?_
  refine c_region ?_
  refine w_asg rfl (by (conv => lhs; whnf) <;> rfl) ?_
  refine w_nil ?_
  refine tq_n ?_
  refine c_seq ?_
  refine c_region ?_
  refine w_mov rfl (by (conv => lhs; whnf) <;> rfl) ?_
  refine w_nilck rfl (by (conv => lhs; whnf) <;> rfl) ?_
  refine x_fa rfl (by (conv => lhs; whnf) <;> rfl) ?_
  refine x_lda (vs := [c0, c1, c2, c3, c4, c5, c6, c7, c8]) rfl (by (conv => lhs; whnf) <;> rfl) (rfl) (hr) ?_
  refine x_call (used_g (hT.sub (List.nil_sublist _)) hm) rfl rfl rfl ?_
  rintro _ _ ⟨S8, rfl, hS8⟩
  obtain ⟨A8, cap8, rfl, _⟩ := hS8.form
  refine w_asg rfl (by (conv => lhs; whnf) <;> rfl) ?_
  refine w_nil ?_
  refine tq_n ?_
  refine c_seq ?_
  refine c_seq ?_
  refine c_region ?_
  refine w_mov rfl (by (conv => lhs; whnf) <;> rfl) ?_
  refine w_nil ?_
  refine tq_n ?_
  refine c_block ?_
  refine c_loop_ov [11, 12, 4, 13, 14, 15, 16, 17, 2, 18, 10] (fun m s L => ∃ (k : Nat), k ≤ 256 ∧ (∀ i : Nat, i < k → (i : Int) ∈ usedL t) ∧ m = 256 - k ∧ s = [(10, .int .i64 k)] ∧ L = S8 ++ []) (256) [(10, .int .i64 (0 : Nat))] (by repeat (first | exact .nil | refine .cons rfl ?_)) (by first | exact SubL.out | repeat (first | exact .refl _ | exact List.nil_sublist _ | refine .cons_cons _ ?_ | refine .cons _ ?_ | refine .append (.refl _) ?_ | exact List.sublist_append_left _ _ | refine .trans ?_ (List.sublist_append_right _ _))) (⟨0, by omega, fun i hi => absurd hi (Nat.not_lt_zero _), by omega, rfl, rfl⟩) ?_
  rintro mI sI LI gL0 ⟨k, hk, hu, rfl, rfl, rfl⟩
  refine c_seq ?_
  refine c_region ?_
  refine w_lss rfl (by (conv => lhs; whnf) <;> rfl) (by (conv => lhs; whnf) <;> rfl) ?_
  refine w_nil ?_
  refine tq_n ?_
  refine c_seq ?_
  refine c_cond_d (by (conv => lhs; whnf) <;> rfl) (fun hc11 => ?_) (fun hc11 => ?_)
  · refine c_skip ?_
    refine tq_n ?_
    refine c_seq ?_
    refine c_block ?_
    refine c_seq ?_
    refine c_region ?_
    refine w_mov rfl (by (conv => lhs; whnf) <;> rfl) ?_
    refine w_asg rfl (by (conv => lhs; whnf) <;> rfl) ?_
    refine w_nil ?_
    refine tq_n ?_
    refine c_seq ?_
    refine c_region ?_
    refine w_mov rfl (by (conv => lhs; whnf) <;> rfl) ?_
    refine w_mov rfl (by (conv => lhs; whnf) <;> rfl) ?_
    refine x_callp (by decide) (contains_g (xs := srt (usedL t)) (SlR.ofOSl (by rw [flatI]; exact hS8) len_srt (by omega) (by first | exact SubL.out | repeat (first | exact .refl _ | exact List.nil_sublist _ | refine .cons_cons _ ?_ | refine .cons _ ?_ | refine .append (.refl _) ?_ | exact List.sublist_append_left _ _ | refine .trans ?_ (List.sublist_append_right _ _))))) rfl rfl rfl ?_
    refine w_notd rfl (by (conv => lhs; whnf) <;> rfl) ?_
    refine w_nil ?_
    refine tq_n ?_
    refine c_cond_d (by (conv => lhs; whnf) <;> rfl) (fun hc16 => ?_) (fun hc16 => ?_)
    · refine c_seq ?_
      refine c_region ?_
      refine w_mov rfl (by (conv => lhs; whnf) <;> rfl) ?_
      refine w_asg rfl (by (conv => lhs; whnf) <;> rfl) ?_
      refine w_nil ?_
      refine tq_n ?_
      refine c_ret ?_
      refine bq_r ?_
      refine tq_r ?_
      refine tq_r ?_
      refine bq_r ?_
      refine tq_r ?_
      exact rq_r (ra_t (by (conv => lhs; whnf) <;> rfl) .nil) (List.nil_sublist _) (⟨⟨k, rfl, by omega, fun h => hc16 (mem_srt.2 h)⟩, rfl⟩)
    · refine c_skip ?_
      refine bq_n ?_
      refine tq_n ?_
      refine c_region ?_
      refine w_add rfl (by (conv => lhs; whnf) <;> rfl) (by (conv => lhs; whnf) <;> rfl) (by omega) ?_
      refine w_mov rfl (by (conv => lhs; whnf) <;> rfl) ?_
      refine w_nil ?_
      refine tq_n ?_
      exact ⟨(by first | ((repeat (first | with_reducible exact Ag.refl | with_reducible exact Ag.ov | (with_reducible refine Ag.upd ?_ ?_; exact rfl) | with_reducible refine Ag.putn ?_ | (with_reducible refine Ag.ovs ?_ ?_; exact rfl))); done) | (repeat (first | exact Ag.refl | exact Ag.ov | (refine Ag.upd ?_ ?_; exact rfl) | refine Ag.putn ?_ | (refine Ag.ovs ?_ ?_; exact rfl)))), 256 - (k + 1), [(10, .int .i64 ((k + 1 : Nat) : Int))], _, by omega, (by first | exact SubL.out | repeat (first | exact .refl _ | exact List.nil_sublist _ | refine .cons_cons _ ?_ | refine .cons _ ?_ | refine .append (.refl _) ?_ | exact List.sublist_append_left _ _ | refine .trans ?_ (List.sublist_append_right _ _))), (by repeat (first | exact .nil | refine .cons rfl ?_)), ⟨k + 1, by omega, fun i hi => (by by_cases hik : i = k; (subst hik; exact mem_srt.1 (Decidable.not_not.1 hc16)); exact hu i (by omega)), rfl, rfl, rfl⟩⟩
  · obtain ⟨x, hx1, hx2⟩ := hf
    have hux := hu x.toNat (by omega)
    rw [Int.toNat_of_nonneg (by omega)] at hux
    refine c_exit ?_
    refine tq_e ?_
    refine tq_e ?_
    refine bq_e ?_
    refine tq_n ?_
    refine c_seq ?_
    refine c_region ?_
    refine w_asg rfl (by (conv => lhs; whnf) <;> rfl) ?_
    refine w_nil ?_
    refine tq_n ?_
    refine c_ret ?_
    exact rq_r (ra_t (by (conv => lhs; whnf) <;> rfl) .nil) (List.nil_sublist _) (⟨absurd hux hx2, rfl⟩)
theorem erase_g {bf bm : Nat} {v : Value} {xs : List Int} {φ : Fl} {es : Array MapEntry} {clk : Nat} {Lf : Obj → Own} (hp : ∀ o o', Put (Lf o) bm o o' (Lf o')) (hr : ∀ o, Rd w0 (Lf o) ⟨bf, 0 + 9, none⟩ (.map (some bm))) (hl : ∀ o, IL w0 (Lf o) v xs) (hk : PM es.toList clk φ) :
    Gives Try.prog w0 (Lf (.map es clk)) 115 [.pointer (some ⟨bf, 0, none⟩), v] (fun v' L' => v' = .tuple #[] ∧ ∃ es' clk', L' = Lf (.map es' clk') ∧ PM es'.toList clk' (erL φ xs)) := by
  refine enter Try.func115 rfl Try.ntmps115 Try.results115 (Nat.le_of_ble_eq_true rfl) ?_
  obtain ⟨A, cap, rfl, hcap, hlen, hA, _⟩ := (hl (.map es clk)).ex
  refine c_seq ?_
  refine c_region ?_
  refine w_mov rfl (by (conv => lhs; whnf) <;> rfl) ?_
  refine x_len rfl (by (conv => lhs; whnf) <;> rfl) ?_
  refine w_mov rfl (by (conv => lhs; whnf) <;> rfl) ?_
  refine w_nil ?_
  refine tq_n ?_
  refine c_block ?_
  refine c_loop_ov [10, 11, 12, 5, 13, 14, 15, 6, 16, 17, 18, 19, 20, 21, 22, 23, 24, 9] (fun m s L => ∃ (k : Nat) (es : Array MapEntry) (clk : Nat), k ≤ xs.length ∧ PM es.toList clk (erL φ (xs.take k)) ∧ m = xs.length - k ∧ s = [(9, .int .i64 k)] ∧ L = Lf (.map es clk)) (xs.length) [(9, .int .i64 (0 : Nat))] (by repeat (first | exact .nil | refine .cons rfl ?_)) (by first | exact SubL.out | repeat (first | exact .refl _ | exact List.nil_sublist _ | refine .cons_cons _ ?_ | refine .cons _ ?_ | refine .append (.refl _) ?_ | exact List.sublist_append_left _ _ | refine .trans ?_ (List.sublist_append_right _ _))) (⟨0, es, clk, by omega, by rw [List.take_zero]; exact hk, by omega, rfl, rfl⟩) ?_
  rintro mI sI LI gL0 ⟨k, es1, clk1, hkl, hpm, rfl, rfl, rfl⟩
  refine c_seq ?_
  refine c_region ?_
  refine w_lss rfl (by (conv => lhs; whnf) <;> rfl) (by (conv => lhs; whnf) <;> rfl) ?_
  refine w_nil ?_
  refine tq_n ?_
  refine c_seq ?_
  refine c_cond_d (by (conv => lhs; whnf) <;> rfl) (fun hc10 => ?_) (fun hc10 => ?_)
  · have hlt : k < xs.length := by omega
    refine c_skip ?_
    refine tq_n ?_
    refine c_seq ?_
    refine c_block ?_
    refine c_seq ?_
    refine c_region ?_
    refine x_ixA rfl (by (conv => lhs; whnf) <;> rfl) (by (conv => lhs; whnf) <;> rfl) (hA (ne_of_lt hlt)) (by omega) (by omega) ?_
    refine x_ld rfl (by (conv => lhs; whnf) <;> rfl) (rdI' (j := (k : Int)) (List.Sublist.refl _) (SlR.rd (hl _)) (getN hlt)) ?_
    refine w_asg rfl (by (conv => lhs; whnf) <;> rfl) ?_
    refine w_nil ?_
    refine tq_n ?_
    refine c_seq ?_
    refine c_region ?_
    refine w_mov rfl (by (conv => lhs; whnf) <;> rfl) ?_
    refine w_nil ?_
    refine tq_n ?_
    refine c_block ?_
    refine c_loop_ov [14, 15, 6, 16, 17, 18, 19, 20, 21, 22, 23, 13] (fun m s L => ∃ (j : Nat) (es : Array MapEntry) (clk : Nat), j ≤ 32 ∧ PM es.toList clk (er (erL φ (xs.take k)) (xs[k]'hlt) j) ∧ m = 32 - j ∧ s = [(13, .int .i64 j)] ∧ L = Lf (.map es clk)) (32) [(13, .int .i64 (0 : Nat))] (by repeat (first | exact .nil | refine .cons rfl ?_)) (by first | exact SubL.out | repeat (first | exact .refl _ | exact List.nil_sublist _ | refine .cons_cons _ ?_ | refine .cons _ ?_ | refine .append (.refl _) ?_ | exact List.sublist_append_left _ _ | refine .trans ?_ (List.sublist_append_right _ _))) (⟨0, es1, clk1, by omega, by rw [show ((0 : Nat) : Int) = 0 from rfl, er_zero]; exact hpm, by omega, rfl, rfl⟩) ?_
    rintro mI sI LI gL1 ⟨j, es2, clk2, hj, hpm2, rfl, rfl, rfl⟩
    refine c_seq ?_
    refine c_region ?_
    refine w_lss rfl (by (conv => lhs; whnf) <;> rfl) (by (conv => lhs; whnf) <;> rfl) ?_
    refine w_nil ?_
    refine tq_n ?_
    refine c_seq ?_
    refine c_cond_d (by (conv => lhs; whnf) <;> rfl) (fun hc14 => ?_) (fun hc14 => ?_)
    · refine c_skip ?_
      refine tq_n ?_
      refine c_seq ?_
      refine c_block ?_
      refine c_seq ?_
      refine c_region ?_
      refine w_mov rfl (by (conv => lhs; whnf) <;> rfl) ?_
      refine w_asg rfl (by (conv => lhs; whnf) <;> rfl) ?_
      refine w_nil ?_
      refine tq_n ?_
      refine c_region ?_
      refine w_mov rfl (by (conv => lhs; whnf) <;> rfl) ?_
      refine w_nilck rfl (by (conv => lhs; whnf) <;> rfl) ?_
      refine x_fa rfl (by (conv => lhs; whnf) <;> rfl) ?_
      refine x_ld rfl (by (conv => lhs; whnf) <;> rfl) (hr _) ?_
      refine w_mov rfl (by (conv => lhs; whnf) <;> rfl) ?_
      refine w_mov rfl (by (conv => lhs; whnf) <;> rfl) ?_
      refine x_bld rfl (.cons (by (conv => lhs; whnf) <;> rfl) (.cons (by (conv => lhs; whnf) <;> rfl) .nil)) rfl ?_
      refine x_del ((xs[k]'hlt, (j : Int))) (Lf := Lf) rfl (by (conv => lhs; whnf) <;> rfl) (by (conv => lhs; whnf) <;> rfl) (fun o' => hp _ o') (hpm2) ?_
      rintro es3 clk3 hpm3
      refine w_nil ?_
      refine bq_n ?_
      refine tq_n ?_
      refine c_region ?_
      refine w_add rfl (by (conv => lhs; whnf) <;> rfl) (by (conv => lhs; whnf) <;> rfl) (by omega) ?_
      refine w_mov rfl (by (conv => lhs; whnf) <;> rfl) ?_
      refine w_nil ?_
      refine tq_n ?_
      exact ⟨(by first | ((repeat (first | with_reducible exact Ag.refl | with_reducible exact Ag.ov | (with_reducible refine Ag.upd ?_ ?_; exact rfl) | with_reducible refine Ag.putn ?_ | (with_reducible refine Ag.ovs ?_ ?_; exact rfl))); done) | (repeat (first | exact Ag.refl | exact Ag.ov | (refine Ag.upd ?_ ?_; exact rfl) | refine Ag.putn ?_ | (refine Ag.ovs ?_ ?_; exact rfl)))), 32 - (j + 1), [(13, .int .i64 ((j + 1 : Nat) : Int))], _, by omega, (by first | exact SubL.out | repeat (first | exact .refl _ | exact List.nil_sublist _ | refine .cons_cons _ ?_ | refine .cons _ ?_ | refine .append (.refl _) ?_ | exact List.sublist_append_left _ _ | refine .trans ?_ (List.sublist_append_right _ _))), (by repeat (first | exact .nil | refine .cons rfl ?_)), ⟨j + 1, es3, clk3, by omega, by rw [← er_step]; exact hpm3, rfl, rfl, rfl⟩⟩
    · refine c_exit ?_
      refine tq_e ?_
      refine tq_e ?_
      refine bq_e ?_
      refine bq_n ?_
      refine tq_n ?_
      refine c_region ?_
      refine w_add rfl (by (conv => lhs; whnf) <;> rfl) (by (conv => lhs; whnf) <;> rfl) (by omega) ?_
      refine w_mov rfl (by (conv => lhs; whnf) <;> rfl) ?_
      refine w_nil ?_
      refine tq_n ?_
      exact ⟨(by first | ((repeat (first | with_reducible exact Ag.refl | with_reducible exact Ag.ov | (with_reducible refine Ag.upd ?_ ?_; exact rfl) | with_reducible refine Ag.putn ?_ | (with_reducible refine Ag.ovs ?_ ?_; exact rfl))); done) | (repeat (first | exact Ag.refl | exact Ag.ov | (refine Ag.upd ?_ ?_; exact rfl) | refine Ag.putn ?_ | (refine Ag.ovs ?_ ?_; exact rfl)))), xs.length - (k + 1), [(9, .int .i64 ((k + 1 : Nat) : Int))], _, by omega, (by first | exact SubL.out | repeat (first | exact .refl _ | exact List.nil_sublist _ | refine .cons_cons _ ?_ | refine .cons _ ?_ | refine .append (.refl _) ?_ | exact List.sublist_append_left _ _ | refine .trans ?_ (List.sublist_append_right _ _))), (by repeat (first | exact .nil | refine .cons rfl ?_)), ⟨k + 1, es2, clk2, by omega, by rw [take_succ' hlt, erL_snoc, show (32 : Int) = ((j : Nat) : Int) by omega]; exact hpm2, rfl, rfl, rfl⟩⟩
  · have hkk : k = xs.length := (by omega)
    rw [hkk, List.take_length] at hpm
    refine c_exit ?_
    refine tq_e ?_
    refine tq_e ?_
    refine bq_e ?_
    exact rq_n .nil (List.Sublist.refl _) (⟨rfl, es1, clk1, rfl, hpm⟩)
theorem fcopies_g {bf bm : Nat} {v : Value} {xs : List Cpy} {ph : Int} {φ : Fl} {es : Array MapEntry} {clk : Nat} {Lf : Obj → Own} (hp : ∀ o o', Put (Lf o) bm o o' (Lf o')) (hr : ∀ o, Rd w0 (Lf o) ⟨bf, 0 + 9, none⟩ (.map (some bm))) (hl : ∀ o, CL w0 (Lf o) v xs) (hk : PM es.toList clk φ) :
    Gives Try.prog w0 (Lf (.map es clk)) 116 [.pointer (some ⟨bf, 0, none⟩), v, .int .i64 ph] (fun v' L' => v' = .tuple #[] ∧ ∃ es' clk', L' = Lf (.map es' clk') ∧ PM es'.toList clk' (cpF φ xs ph)) := by
  refine enter Try.func116 rfl Try.ntmps116 Try.results116 (Nat.le_of_ble_eq_true rfl) ?_
  obtain ⟨A, cap, rfl, hcap, hlen, hA, _⟩ := (hl (.map es clk)).ex
  refine c_seq ?_
  refine c_region ?_
  refine w_mov rfl (by (conv => lhs; whnf) <;> rfl) ?_
  refine x_len rfl (by (conv => lhs; whnf) <;> rfl) ?_
  refine w_mov rfl (by (conv => lhs; whnf) <;> rfl) ?_
  refine w_nil ?_
  refine tq_n ?_
  refine c_block ?_
  refine c_loop_ov [13, 14, 15, 7, 17, 18, 19, 20, 21, 22, 23, 16, 24, 25, 8, 9, 26, 27, 28, 29, 30, 31, 32, 33, 34, 35, 36, 12] (fun m s L => ∃ (k : Nat) (es : Array MapEntry) (clk : Nat), k ≤ xs.length ∧ PM es.toList clk (cpF φ (xs.take k) ph) ∧ m = xs.length - k ∧ s = [(12, .int .i64 k)] ∧ L = Lf (.map es clk)) (xs.length) [(12, .int .i64 (0 : Nat))] (by repeat (first | exact .nil | refine .cons rfl ?_)) (by first | exact SubL.out | repeat (first | exact .refl _ | exact List.nil_sublist _ | refine .cons_cons _ ?_ | refine .cons _ ?_ | refine .append (.refl _) ?_ | exact List.sublist_append_left _ _ | refine .trans ?_ (List.sublist_append_right _ _))) (⟨0, es, clk, by omega, by rw [List.take_zero]; exact hk, by omega, rfl, rfl⟩) ?_
  rintro mI sI LI gL0 ⟨k, es1, clk1, hkl, hpm, rfl, rfl, rfl⟩
  refine c_seq ?_
  refine c_region ?_
  refine w_lss rfl (by (conv => lhs; whnf) <;> rfl) (by (conv => lhs; whnf) <;> rfl) ?_
  refine w_nil ?_
  refine tq_n ?_
  refine c_seq ?_
  refine c_cond_d (by (conv => lhs; whnf) <;> rfl) (fun hc13 => ?_) (fun hc13 => ?_)
  · have hlt : k < xs.length := by omega
    refine c_skip ?_
    refine tq_n ?_
    refine c_seq ?_
    refine c_block ?_
    refine c_seq ?_
    refine c_region ?_
    refine x_ixA rfl (by (conv => lhs; whnf) <;> rfl) (by (conv => lhs; whnf) <;> rfl) (hA (ne_of_lt hlt)) (by omega) (by omega) ?_
    refine x_lda (vs := [.int .i64 (xs[k]'hlt).1.1, .int .i64 (xs[k]'hlt).1.2, .int .i64 (xs[k]'hlt).2]) rfl (by (conv => lhs; whnf) <;> rfl) (rfl) (rd3 (j := (k : Int)) (List.Sublist.refl _) (SlR.rd (hl _)) (getN hlt)) ?_
    refine x_al rfl ?_
    intro b7
    refine x_stw rfl (by (conv => lhs; whnf) <;> rfl) (by (conv => lhs; whnf) <;> rfl) rfl rfl (by first | exact HasC.out | exact PutC.out) rfl ?_
    refine w_nil ?_
    refine tq_n ?_
    refine c_seq ?_
    refine c_draw mixed (by kernel_rfl) ?_
    refine w_mov rfl (by (conv => lhs; whnf) <;> rfl) ?_
    refine w_nilck rfl (by (conv => lhs; whnf) <;> rfl) ?_
    refine x_fa rfl (by (conv => lhs; whnf) <;> rfl) ?_
    refine x_ld rfl (by (conv => lhs; whnf) <;> rfl) ((hr _).sub (List.sublist_cons_self _ _)) ?_
    refine x_fa rfl (by (conv => lhs; whnf) <;> rfl) ?_
    refine x_ldao rfl (by (conv => lhs; whnf) <;> rfl) (by first | exact HasC.out | exact PutC.out) rfl ?_
    refine x_lk2 ((xs[k]'hlt).1) rfl (by (conv => lhs; whnf) <;> rfl) (by (conv => lhs; whnf) <;> rfl) (.there (hp _ (.map #[] 0)).has) (hpm) ?_
    refine w_mov rfl (by (conv => lhs; whnf) <;> rfl) ?_
    refine w_ext rfl (by (conv => lhs; whnf) <;> rfl) (by (conv => lhs; whnf) <;> rfl) ?_
    refine w_ext rfl (by (conv => lhs; whnf) <;> rfl) (by (conv => lhs; whnf) <;> rfl) ?_
    refine w_asg rfl (by (conv => lhs; whnf) <;> rfl) ?_
    refine w_asg rfl (by (conv => lhs; whnf) <;> rfl) ?_
    refine w_nil ?_
    refine tq_n ?_
    refine c_seq ?_
    refine c_region ?_
    refine w_mov rfl (by (conv => lhs; whnf) <;> rfl) ?_
    refine w_nil ?_
    refine tq_n ?_
    refine c_cond (by (conv => lhs; whnf) <;> rfl) (fun hc26 => ?_) (fun hc26 => ?_)
    · refine d_begin_s ((List.Sublist.refl _)) [9] mixed ?_
      refine d_tk0 0 (np_blk (np_then (np_then (np_blk np_ret)))) rfl (by kernel_rfl) (by kernel_rfl) (by kernel_rfl) (by kernel_rfl) (.inl (by first | exact SubL.out | repeat (first | exact .refl _ | exact List.nil_sublist _ | refine .cons_cons _ ?_ | refine .cons _ ?_ | refine .append (.refl _) ?_ | exact List.sublist_append_left _ _ | refine .trans ?_ (List.sublist_append_right _ _)))) ?_
      refine w_mov rfl (by (conv => lhs; whnf) <;> rfl) ?_
      refine w_nil ⟨rfl, rfl, ?_⟩
      refine d_tk0 1 (np_blk (np_then (np_then (np_blk np_ret)))) rfl (by kernel_rfl) (by kernel_rfl) (by kernel_rfl) (by kernel_rfl) (.inl (by first | exact SubL.out | repeat (first | exact .refl _ | exact List.nil_sublist _ | refine .cons_cons _ ?_ | refine .cons _ ?_ | refine .append (.refl _) ?_ | exact List.sublist_append_left _ _ | refine .trans ?_ (List.sublist_append_right _ _)))) ?_
      refine w_nilck rfl (by (conv => lhs; whnf) <;> rfl) ?_
      refine w_nil ⟨rfl, rfl, ?_⟩
      refine d_tk0 2 (np_blk (np_then (np_then (np_blk np_ret)))) rfl (by kernel_rfl) (by kernel_rfl) (by kernel_rfl) (by kernel_rfl) (.inl (by first | exact SubL.out | repeat (first | exact .refl _ | exact List.nil_sublist _ | refine .cons_cons _ ?_ | refine .cons _ ?_ | refine .append (.refl _) ?_ | exact List.sublist_append_left _ _ | refine .trans ?_ (List.sublist_append_right _ _)))) ?_
      refine x_fa rfl (by (conv => lhs; whnf) <;> rfl) ?_
      refine w_nil ⟨rfl, rfl, ?_⟩
      refine d_tk 3 (np_blk (np_then (np_then (np_blk np_ret)))) rfl (by kernel_rfl) (by kernel_rfl) (by kernel_rfl) (by kernel_rfl) (by kernel_rfl) (by first | exact SubL.out | repeat (first | exact .refl _ | exact List.nil_sublist _ | refine .cons_cons _ ?_ | refine .cons _ ?_ | refine .append (.refl _) ?_ | exact List.sublist_append_left _ _ | refine .trans ?_ (List.sublist_append_right _ _))) ?_
      refine x_ld rfl (by (conv => lhs; whnf) <;> rfl) ((hr _).sub (List.sublist_cons_self _ _)) ?_
      refine w_nil ⟨rfl, rfl, ?_⟩
      refine d_tk0 4 (np_blk (np_then (np_then (np_blk np_ret)))) rfl (by kernel_rfl) (by kernel_rfl) (by kernel_rfl) (by kernel_rfl) (.inl (by first | exact SubL.out | repeat (first | exact .refl _ | exact List.nil_sublist _ | refine .cons_cons _ ?_ | refine .cons _ ?_ | refine .append (.refl _) ?_ | exact List.sublist_append_left _ _ | refine .trans ?_ (List.sublist_append_right _ _)))) ?_
      refine w_mov rfl (by (conv => lhs; whnf) <;> rfl) ?_
      refine w_nil ⟨rfl, rfl, ?_⟩
      refine d_tk0 5 (np_blk (np_then (np_then (np_blk np_ret)))) rfl (by kernel_rfl) (by kernel_rfl) (by kernel_rfl) (by kernel_rfl) (.inl (by first | exact SubL.out | repeat (first | exact .refl _ | exact List.nil_sublist _ | refine .cons_cons _ ?_ | refine .cons _ ?_ | refine .append (.refl _) ?_ | exact List.sublist_append_left _ _ | refine .trans ?_ (List.sublist_append_right _ _)))) ?_
      refine x_fa rfl (by (conv => lhs; whnf) <;> rfl) ?_
      refine w_nil ⟨rfl, rfl, ?_⟩
      refine d_tk 6 (np_blk (np_then (np_then (np_blk np_ret)))) rfl (by kernel_rfl) (by kernel_rfl) (by kernel_rfl) (by kernel_rfl) (by kernel_rfl) (by first | exact SubL.out | repeat (first | exact .refl _ | exact List.nil_sublist _ | refine .cons_cons _ ?_ | refine .cons _ ?_ | refine .append (.refl _) ?_ | exact List.sublist_append_left _ _ | refine .trans ?_ (List.sublist_append_right _ _))) ?_
      refine x_ldo rfl (by (conv => lhs; whnf) <;> rfl) (by first | exact HasC.out | exact PutC.out) (by (conv => lhs; whnf) <;> rfl) ?_
      refine w_nil ⟨rfl, rfl, ?_⟩
      refine d_tk0 7 (np_blk (np_then (np_then (np_blk np_ret)))) rfl (by kernel_rfl) (by kernel_rfl) (by kernel_rfl) (by kernel_rfl) (.inl (by first | exact SubL.out | repeat (first | exact .refl _ | exact List.nil_sublist _ | refine .cons_cons _ ?_ | refine .cons _ ?_ | refine .append (.refl _) ?_ | exact List.sublist_append_left _ _ | refine .trans ?_ (List.sublist_append_right _ _)))) ?_
      refine x_bld rfl (.cons (by (conv => lhs; whnf) <;> rfl) (.cons (by (conv => lhs; whnf) <;> rfl) .nil)) rfl ?_
      refine w_nil ⟨rfl, rfl, ?_⟩
      refine d_tk0 8 (np_blk (np_then (np_then (np_blk np_ret)))) rfl (by kernel_rfl) (by kernel_rfl) (by kernel_rfl) (by kernel_rfl) (.inl (by first | exact SubL.out | repeat (first | exact .refl _ | exact List.nil_sublist _ | refine .cons_cons _ ?_ | refine .cons _ ?_ | refine .append (.refl _) ?_ | exact List.sublist_append_left _ _ | refine .trans ?_ (List.sublist_append_right _ _)))) ?_
      refine w_mov rfl (by (conv => lhs; whnf) <;> rfl) ?_
      refine w_nil ⟨rfl, rfl, ?_⟩
      refine d_one 9 rfl (by kernel_rfl) ?_
      refine x_mu2 ((ph, (xs[k]'hlt).2)) ((((cpF φ (xs.take k) ph) (xs[k]'hlt).1).getD 0)) (Lf := (fun o => (b7, _) :: Lf o)) rfl (by (conv => lhs; whnf) <;> rfl) (by (conv => lhs; whnf) <;> rfl) (by (conv => lhs; whnf) <;> rfl) ((fun o' => .there (hp _ o'))) (hpm) ?_
      rintro es3 clk3 hpm3'
      refine w_nil ⟨rfl, (.inr (by kernel_rfl)), ?_⟩
      refine d_done (by kernel_rfl) ?_
      have hpm3 : PM es3.toList clk3 (cp1 ph (cpF φ (xs.take k) ph) (xs[k]'hlt)) := (by unfold cp1; obtain ⟨v, hv⟩ := Option.isSome_iff_exists.1 hc26; rw [hv] at hpm3' ⊢; exact hpm3')
      refine bq_n ?_
      refine tq_n ?_
      refine c_region ?_
      refine w_add rfl (by (conv => lhs; whnf) <;> rfl) (by (conv => lhs; whnf) <;> rfl) (by omega) ?_
      refine w_mov rfl (by (conv => lhs; whnf) <;> rfl) ?_
      refine w_nil ?_
      refine tq_n ?_
      exact ⟨(by first | ((repeat (first | with_reducible exact Ag.refl | with_reducible exact Ag.ov | (with_reducible refine Ag.upd ?_ ?_; exact rfl) | with_reducible refine Ag.putn ?_ | (with_reducible refine Ag.ovs ?_ ?_; exact rfl))); done) | (repeat (first | exact Ag.refl | exact Ag.ov | (refine Ag.upd ?_ ?_; exact rfl) | refine Ag.putn ?_ | (refine Ag.ovs ?_ ?_; exact rfl)))), xs.length - (k + 1), [(12, .int .i64 ((k + 1 : Nat) : Int))], _, by omega, (List.sublist_cons_self _ _), (by repeat (first | exact .nil | refine .cons rfl ?_)), ⟨k + 1, _, _, by omega, by rw [take_succ' hlt, cpF_snoc]; exact hpm3, rfl, rfl, rfl⟩⟩
    · have hpm3 : PM es1.toList clk1 (cp1 ph (cpF φ (xs.take k) ph) (xs[k]'hlt)) := (by unfold cp1; have hv : (cpF φ (xs.take k) ph) (xs[k]'hlt).1 = none := (by rw [← Option.not_isSome_iff_eq_none, hc26]; decide); rw [hv]; exact hpm)
      refine c_skip ?_
      refine bq_n ?_
      refine tq_n ?_
      refine c_region ?_
      refine w_add rfl (by (conv => lhs; whnf) <;> rfl) (by (conv => lhs; whnf) <;> rfl) (by omega) ?_
      refine w_mov rfl (by (conv => lhs; whnf) <;> rfl) ?_
      refine w_nil ?_
      refine tq_n ?_
      exact ⟨(by first | ((repeat (first | with_reducible exact Ag.refl | with_reducible exact Ag.ov | (with_reducible refine Ag.upd ?_ ?_; exact rfl) | with_reducible refine Ag.putn ?_ | (with_reducible refine Ag.ovs ?_ ?_; exact rfl))); done) | (repeat (first | exact Ag.refl | exact Ag.ov | (refine Ag.upd ?_ ?_; exact rfl) | refine Ag.putn ?_ | (refine Ag.ovs ?_ ?_; exact rfl)))), xs.length - (k + 1), [(12, .int .i64 ((k + 1 : Nat) : Int))], _, by omega, (List.sublist_cons_self _ _), (by repeat (first | exact .nil | refine .cons rfl ?_)), ⟨k + 1, _, _, by omega, by rw [take_succ' hlt, cpF_snoc]; exact hpm3, rfl, rfl, rfl⟩⟩
  · have hkk : k = xs.length := (by omega)
    rw [hkk, List.take_length] at hpm
    refine c_exit ?_
    refine tq_e ?_
    refine tq_e ?_
    refine bq_e ?_
    exact rq_n .nil (List.Sublist.refl _) (⟨rfl, es1, clk1, rfl, hpm⟩)
end
end Go.Proofs.Ytnmhhelcaibdoaa.Pl
