/- A flash does a step. -/
import Derived.Test.YtnmhhelcaibdoaaXb
import Derived.Test.YtnmhhelcaibdoaaSlP
namespace Go.Proofs.Ytnmhhelcaibdoaa.Pl
open Go Go.RowKit Sl
set_option linter.unusedVariables false
set_option linter.unusedSimpArgs false
/-- What a merge (or an opening) makes of a table and of what stands in pages; the blocks that are to be erased behind it. -/
inductive Mrg (t : Tb) (φ : Fl) (k b : Int) : Tb → Fl → List Int → Prop
  | opn {t' : Tb} {n : Int} (hk : k = 3 ∨ k = 4) (hn : frsh t n) (h : opn t k b n = .inr t') : Mrg t φ k b t' (erL φ [n]) []
  | sw {t' : Tb} {l : List Int} (hk : k = 6 ∨ k = 5) (h : switched t = .inr (t', l)) : Mrg t φ k b t' (cpF φ (restA t) t.sp) l
  | fd {t' : Tb} {l : List Int} {n : Int} (hk : k = 7 ∨ k = 8) (hn : frsh t n) (h : folded t b n = .inr (t', l)) : Mrg t φ k b t' (cpF φ (foldA t b) n) l
  | dr {t' : Tb} {x : Int} (hk : k = 9) (h : drop1 t = .inr (t', x)) : Mrg t φ k b t' φ [x]
inductive Did (t : Tb) (φ : Fl) (k b page value : Int) : Tb → Fl → Bool → Prop
  | put {t' : Tb} {a c : Int} (hk : k = 1 ∨ k = 2) (h : put t k page = .inr (t', a, c)) : Did t φ k b page value t' (fset φ (a, c) (some value)) true
  | mrg {t' : Tb} {φ1 : Fl} {l : List Int} (h : Mrg t φ k b t' φ1 l) : Did t φ k b page value t' (erL φ1 l) false
/-- The step can be done. -/
structure Can (t : Tb) (k b page : Int) : Prop where
  one : 1 ≤ k ∧ k ≤ 9
  put : k = 1 ∨ k = 2 → ∃ t' a c, put t k page = .inr (t', a, c)
  opn : k = 3 ∨ k = 4 → ∀ n, frsh t n → ∃ t', opn t k b n = .inr t'
  sw : k = 6 ∨ k = 5 → ∃ t' l, switched t = .inr (t', l)
  fd : k = 7 ∨ k = 8 → ∀ n, frsh t n → ∃ t' l, folded t b n = .inr (t', l)
  dr : k = 9 → ∃ t' x, drop1 t = .inr (t', x)
theorem rd9 {w0 : World} {L : Own} {bf : Nat} {c0 c1 c2 c3 c4 c5 c6 c7 c8 m : Value} (h : Has L bf (B 74 [c0, c1, c2, c3, c4, c5, c6, c7, c8, m])) : ∀ i v, [c0, c1, c2, c3, c4, c5, c6, c7, c8][i]? = some v → Rd w0 L ((⟨bf, 0, none⟩ : Addr).add i) v := fun i v hv => by
  rw [addr_add, Nat.zero_add]
  refine Rd.own h ?_
  rw [show [c0, c1, c2, c3, c4, c5, c6, c7, c8, m] = [c0, c1, c2, c3, c4, c5, c6, c7, c8] ++ [m] from rfl, List.getElem?_append_left (List.getElem?_eq_some_iff.1 hv).1]
  exact hv
theorem il_one {w0 : World} {L : Own} {b T : Nat} {n : Int} (h : Has L b (B T [.int .i64 n])) : IL w0 L (.slice (some ⟨b, 0, none⟩) 1 1) [n] :=
  ⟨some ⟨b, 0, none⟩, 1, rfl, Nat.le_refl _, by simp, fun _ => rfl, fun i c hc => by
    have : i = 0 := by have := (List.getElem?_eq_some_iff.1 hc).1; simp [Sl.encI] at this; omega
    subst this
    exact Rd.own h (by simp [Sl.encI] at hc; rw [← hc]; rfl)⟩
theorem cl_ofX {v : Value} {xs : List Cpy} {S L : Own} {w0 : World} (h : OSl 118 3 v (xs.flatMap enC3) xs.length S) (hl : xs.length ≤ 32) (hs : S.Sublist L) : CL w0 L v xs := SlR.ofOSl h rfl (by omega) hs
theorem fl_nil {S : Own} : FL S (.slice none 0 0) [] := fun w0 L _ => ⟨none, 0, rfl, Nat.le_refl _, by simp, fun h => absurd rfl h, fun i c h => by simp at h⟩
theorem tabO_c {S : Own} {c0 c1 c2 c3 c4 c5 c6 c7 c8 : Value} {t : Tb} (h : TabO S (.agg #[c0, c1, c2, c3, c4, c5, c6, c7, c8]) t) : c0 = .int .i64 t.P ∧ c5 = .int .i64 t.sp := by
  obtain ⟨vd, vh, vl, e, _⟩ := (h default S (List.Sublist.refl _)).ex
  injection e with e
  have e := congrArg Array.toList e
  simp only [List.cons.injEq] at e
  exact ⟨e.1, e.2.2.2.2.2.1⟩
section
variable {w0 : World} {R : Own}
set_option maxHeartbeats 8000000 in
theorem does_g {bf bm : Nat} {c0 c1 c2 c3 c4 c6 c7 c8 : Value} {es : Array MapEntry} {clk : Nat} {S : Own} {t : Tb} {φ : Fl} {k b page value : Int} (ho : [c0, c1, c2, c3, c4, .int .i64 t.sp, c6, c7, c8].all Value.oneCell' = true) (hT : TabO S (.agg #[c0, c1, c2, c3, c4, .int .i64 t.sp, c6, c7, c8]) t) (hpm : PM es.toList clk φ) (hm : May t) (hf : ∃ x, frsh t x) (hb : b ≤ 9223372036854775807) (hC : Can t k b page) :
    Gives Try.prog w0 ((bf, B 74 [c0, c1, c2, c3, c4, .int .i64 t.sp, c6, c7, c8, .map (some bm)]) :: (bm, .map es clk) :: (S ++ R)) 73 [.pointer (some ⟨bf, 0, none⟩), .agg #[.int .i64 k, .int .i64 b], .int .i64 page, .int .i64 value]
      (fun v' L' => ∃ t' φ' d, Did t φ k b page value t' φ' d ∧ v' = .tuple #[.bool true, .bool d] ∧ ∃ d0 d1 d2 d3 d4 d5 d6 d7 d8 es' clk' S', L' = (bf, B 74 [d0, d1, d2, d3, d4, d5, d6, d7, d8, .map (some bm)]) :: (bm, .map es' clk') :: (S' ++ R) ∧ [d0, d1, d2, d3, d4, d5, d6, d7, d8].all Value.oneCell' = true ∧ TabO S' (.agg #[d0, d1, d2, d3, d4, d5, d6, d7, d8]) t' ∧ PM es'.toList clk' φ') := by
  refine enter Try.func73 rfl Try.ntmps73 Try.results73 (Nat.le_of_ble_eq_true rfl) ?_
  have hone := hC.one
  have hlA := foldA_len (b := b) hm.1
  have hlR := restA_len hm.1
  refine c_seq ?_
  refine c_region ?_
  refine x_boxa rfl (by (conv => lhs; whnf) <;> rfl) ?_
  intro b5
  refine w_asg rfl (by (conv => lhs; whnf) <;> rfl) ?_
  refine w_asg rfl (by (conv => lhs; whnf) <;> rfl) ?_
  refine w_nil ?_
  refine tq_n ?_
  refine c_seq ?_
  refine c_region ?_
  refine w_mov rfl (by (conv => lhs; whnf) <;> rfl) ?_
  refine x_call (ffresh_g (rd9 (by first | exact HasC.out | exact PutC.out)) (hT.use (by first | exact SubL.out | repeat (first | exact .refl _ | exact List.nil_sublist _ | refine .cons_cons _ ?_ | refine .cons _ ?_ | refine .append (.refl _) ?_ | exact List.sublist_append_left _ _ | refine .trans ?_ (List.sublist_append_right _ _)))) hm hf) rfl rfl rfl ?_
  rintro _ _ ⟨⟨n, rfl, hn⟩, rfl⟩
  refine w_asg rfl (by (conv => lhs; whnf) <;> rfl) ?_
  refine w_nil ?_
  refine tq_n ?_
  refine c_seq ?_
  refine c_region ?_
  refine w_asg rfl (by (conv => lhs; whnf) <;> rfl) ?_
  refine w_nil ?_
  refine tq_n ?_
  refine c_seq ?_
  refine c_region ?_
  refine w_asg rfl (by (conv => lhs; whnf) <;> rfl) ?_
  refine w_nil ?_
  refine tq_n ?_
  refine c_mid_p [19, 20, 36, 35, 37, 39, 40, 41, 42, 43, 44, 45, 38, 46, 47, 48, 13, 14, 15, 49, 50, 51, 52, 53, 54, 55, 56, 57, 58, 59, 60, 61, 62, 8, 9, 64, 63, 65, 66, 67, 68, 69, 71, 72, 73, 74, 75, 76, 77, 78, 70, 79, 80, 81, 82, 11, 84, 83, 85, 86, 87, 88, 89, 90, 91, 92, 93, 94, 95, 96, 97, 98, 100, 101, 102, 103, 104, 105, 99, 106, 107, 108, 109, 110, 12, 112, 111, 113, 114, 115, 116, 117, 118, 119, 120, 121, 122, 123, 125, 126, 127, 128, 129, 130, 131, 132, 133, 124, 134, 135, 136, 137, 138, 16, 22, 23, 24, 25, 26, 27, 21, 28, 29, 30, 31, 32, 33, 34] (fun s L => ∃ (lv : Value) (S' : Own) (p0 p1 p2 p3 p4 p5 p6 p7 p8 : Value) (t' : Tb) (gl : List Int) (φ1 : Fl) (es1 : Array MapEntry) (clk1 : Nat), s = [(11, .int .i64 0), (12, lv)] ∧ [p0, p1, p2, p3, p4, p5, p6, p7, p8].all Value.oneCell' = true ∧ TabO S' (.agg #[p0, p1, p2, p3, p4, p5, p6, p7, p8]) t' ∧ FL S' lv gl ∧ Mrg t φ k b t' φ1 gl ∧ PM es1.toList clk1 φ1 ∧ L = (bf, B 74 [p0, p1, p2, p3, p4, p5, p6, p7, p8, .map (some bm)]) :: (bm, .map es1 clk1) :: (S' ++ R)) ?_ ?_
  · refine c_seq ?_
    refine c_region ?_
    refine x_fa rfl (by (conv => lhs; whnf) <;> rfl) ?_
    refine x_ldo rfl (by (conv => lhs; whnf) <;> rfl) (by first | exact HasC.out | exact PutC.out) (by (conv => lhs; whnf) <;> rfl) ?_
    refine w_nil ?_
    refine tq_n ?_
    refine c_block ?_
    refine c_mid_ov [36, 35, 37] (fun s L => s = [(35, .bool (decide (k = 1 ∨ k = 2)))] ∧ L = (b5, B 45 [.int .i64 k, .int .i64 b]) :: (bf, B 74 [c0, c1, c2, c3, c4, .int .i64 t.sp, c6, c7, c8, .map (some bm)]) :: (bm, .map es clk) :: (S ++ R)) ?_ ?_
    · refine c_seq ?_
      refine c_region ?_
      refine w_eql rfl (by (conv => lhs; whnf) <;> rfl) (by (conv => lhs; whnf) <;> rfl) ?_
      refine w_asg rfl (by (conv => lhs; whnf) <;> rfl) ?_
      refine w_nil ?_
      refine tq_n ?_
      refine c_cond_d (by (conv => lhs; whnf) <;> rfl) (fun hc35 => ?_) (fun hc35 => ?_)
      · refine c_skip ?_
        refine tq_n ?_
        exact ⟨(by first | ((repeat (first | with_reducible exact Ag.refl | with_reducible exact Ag.ov | (with_reducible refine Ag.upd ?_ ?_; exact rfl) | with_reducible refine Ag.putn ?_ | (with_reducible refine Ag.ovs ?_ ?_; exact rfl))); done) | (repeat (first | exact Ag.refl | exact Ag.ov | (refine Ag.upd ?_ ?_; exact rfl) | refine Ag.putn ?_ | (refine Ag.ovs ?_ ?_; exact rfl)))), [(35, _)], _, (by first | exact SubL.out | repeat (first | exact .refl _ | exact List.nil_sublist _ | refine .cons_cons _ ?_ | refine .cons _ ?_ | refine .append (.refl _) ?_ | exact List.sublist_append_left _ _ | refine .trans ?_ (List.sublist_append_right _ _))), (by repeat (first | exact .nil | refine .cons rfl ?_)), ⟨congrArg (fun x => [(35, Value.bool x)]) (decide_eq_decide.2 (by omega)), rfl⟩⟩
      · refine c_region ?_
        refine w_eql rfl (by (conv => lhs; whnf) <;> rfl) (by (conv => lhs; whnf) <;> rfl) ?_
        refine w_asg rfl (by (conv => lhs; whnf) <;> rfl) ?_
        refine w_nil ?_
        refine tq_n ?_
        exact ⟨(by first | ((repeat (first | with_reducible exact Ag.refl | with_reducible exact Ag.ov | (with_reducible refine Ag.upd ?_ ?_; exact rfl) | with_reducible refine Ag.putn ?_ | (with_reducible refine Ag.ovs ?_ ?_; exact rfl))); done) | (repeat (first | exact Ag.refl | exact Ag.ov | (refine Ag.upd ?_ ?_; exact rfl) | refine Ag.putn ?_ | (refine Ag.ovs ?_ ?_; exact rfl)))), [(35, _)], _, (by first | exact SubL.out | repeat (first | exact .refl _ | exact List.nil_sublist _ | refine .cons_cons _ ?_ | refine .cons _ ?_ | refine .append (.refl _) ?_ | exact List.sublist_append_left _ _ | refine .trans ?_ (List.sublist_append_right _ _))), (by repeat (first | exact .nil | refine .cons rfl ?_)), ⟨congrArg (fun x => [(35, Value.bool x)]) (decide_eq_decide.2 (by omega)), rfl⟩⟩
    · rintro sM LM gM ⟨rfl, rfl⟩
      refine c_cond_d (by (conv => lhs; whnf) <;> rfl) (fun hc35 => ?_) (fun hc35 => ?_)
      · refine c_mid_p [39, 40, 41, 42, 43, 44, 45, 38, 46, 47, 48, 13, 14, 15] (fun s L => ∃ (x y : Nat) (S23 : Own) (p0 p1 p2 p3 p4 p5 p6 p7 p8 : Value) (t' : Tb) (pa1 pb1 : Int), s = [(13, .pointer (some ⟨x, 0, none⟩)), (14, .pointer (some ⟨y, 0, none⟩)), (15, .int .i64 0)] ∧ put t k page = .inr (t', pa1, pb1) ∧ [p0, p1, p2, p3, p4, p5, p6, p7, p8].all Value.oneCell' = true ∧ TabO S23 (.agg #[p0, p1, p2, p3, p4, p5, p6, p7, p8]) t' ∧ L = (bf, B 74 [c0, c1, c2, c3, c4, .int .i64 t.sp, c6, c7, c8, .map (some bm)]) :: (bm, .map es clk) :: (x, B 43 [p0, p1, p2, p3, p4, p5, p6, p7, p8]) :: (y, B 29 [.int .i64 pa1, .int .i64 pb1]) :: (S23 ++ ((b5, B 45 [.int .i64 k, .int .i64 b]) :: (S ++ R)))) ?_ ?_
        · obtain ⟨t', pa1, pb1, hpt⟩ := hC.put hc35
          refine d_begin_s ((show List.Sublist [(b5, _), (bf, _)] _ from (by first | exact SubL.out | repeat (first | exact .refl _ | exact List.nil_sublist _ | refine .cons_cons _ ?_ | refine .cons _ ?_ | refine .append (.refl _) ?_ | exact List.sublist_append_left _ _ | refine .trans ?_ (List.sublist_append_right _ _))))) [] mixed ?_
          refine d_tk0 0 (np_then (np_blk (np_then np_ret))) rfl (by kernel_rfl) (by kernel_rfl) (by kernel_rfl) (by kernel_rfl) (.inl (by first | exact SubL.out | repeat (first | exact .refl _ | exact List.nil_sublist _ | refine .cons_cons _ ?_ | refine .cons _ ?_ | refine .append (.refl _) ?_ | exact List.sublist_append_left _ _ | refine .trans ?_ (List.sublist_append_right _ _)))) ?_
          refine w_mov rfl (by (conv => lhs; whnf) <;> rfl) ?_
          refine w_nil ⟨rfl, rfl, ?_⟩
          refine d_tk0 1 (np_then (np_blk (np_then np_ret))) rfl (by kernel_rfl) (by kernel_rfl) (by kernel_rfl) (by kernel_rfl) (.inl (by first | exact SubL.out | repeat (first | exact .refl _ | exact List.nil_sublist _ | refine .cons_cons _ ?_ | refine .cons _ ?_ | refine .append (.refl _) ?_ | exact List.sublist_append_left _ _ | refine .trans ?_ (List.sublist_append_right _ _)))) ?_
          refine w_nilck rfl (by (conv => lhs; whnf) <;> rfl) ?_
          refine w_nil ⟨rfl, rfl, ?_⟩
          refine d_tk0 2 (np_then (np_blk (np_then np_ret))) rfl (by kernel_rfl) (by kernel_rfl) (by kernel_rfl) (by kernel_rfl) (.inl (by first | exact SubL.out | repeat (first | exact .refl _ | exact List.nil_sublist _ | refine .cons_cons _ ?_ | refine .cons _ ?_ | refine .append (.refl _) ?_ | exact List.sublist_append_left _ _ | refine .trans ?_ (List.sublist_append_right _ _)))) ?_
          refine x_fa rfl (by (conv => lhs; whnf) <;> rfl) ?_
          refine w_nil ⟨rfl, rfl, ?_⟩
          refine d_tk 3 (np_then (np_blk (np_then np_ret))) rfl (by kernel_rfl) (by kernel_rfl) (by kernel_rfl) (by kernel_rfl) (by kernel_rfl) (by first | exact SubL.out | repeat (first | exact .refl _ | exact List.nil_sublist _ | refine .cons_cons _ ?_ | refine .cons _ ?_ | refine .append (.refl _) ?_ | exact List.sublist_append_left _ _ | refine .trans ?_ (List.sublist_append_right _ _))) ?_
          refine x_ldao rfl (by (conv => lhs; whnf) <;> rfl) (by first | exact HasC.out | exact PutC.out) rfl ?_
          refine w_nil ⟨rfl, rfl, ?_⟩
          refine d_tk 4 (np_then (np_blk (np_then np_ret))) rfl (by kernel_rfl) (by kernel_rfl) (by kernel_rfl) (by kernel_rfl) (by kernel_rfl) (by first | exact SubL.out | repeat (first | exact .refl _ | exact List.nil_sublist _ | refine .cons_cons _ ?_ | refine .cons _ ?_ | refine .append (.refl _) ?_ | exact List.sublist_append_left _ _ | refine .trans ?_ (List.sublist_append_right _ _))) ?_
          refine x_ldao rfl (by (conv => lhs; whnf) <;> rfl) (by first | exact HasC.out | exact PutC.out) rfl ?_
          refine w_nil ⟨rfl, rfl, ?_⟩
          refine d_tk0 5 (np_then (np_blk (np_then np_ret))) rfl (by kernel_rfl) (by kernel_rfl) (by kernel_rfl) (by kernel_rfl) (.inl (by first | exact SubL.out | repeat (first | exact .refl _ | exact List.nil_sublist _ | refine .cons_cons _ ?_ | refine .cons _ ?_ | refine .append (.refl _) ?_ | exact List.sublist_append_left _ _ | refine .trans ?_ (List.sublist_append_right _ _)))) ?_
          refine w_mov rfl (by (conv => lhs; whnf) <;> rfl) ?_
          refine w_nil ⟨rfl, rfl, ?_⟩
          refine d_three 6 11 12 rfl rfl rfl (by kernel_rfl) ?_ ?_ ?_
          · refine x_call (put_g (hT.use (by first | exact SubL.out | repeat (first | exact .refl _ | exact List.nil_sublist _ | refine .cons_cons _ ?_ | refine .cons _ ?_ | refine .append (.refl _) ?_ | exact List.sublist_append_left _ _ | refine .trans ?_ (List.sublist_append_right _ _))))) rfl rfl rfl ?_
            rintro _ _ ⟨S23, rfl, hP⟩
            rw [hpt] at hP
            obtain ⟨tv, rfl, hO⟩ := hP
            obtain ⟨p0, p1, p2, p3, p4, p5, p6, p7, p8, rfl, hpo⟩ := tabO_cells hO
            refine w_nil ⟨rfl, (.inl (by first | exact SubL.out | repeat (first | exact .refl _ | exact List.nil_sublist _ | refine .cons_cons _ ?_ | refine .cons _ ?_ | refine .append (.refl _) ?_ | exact List.sublist_append_left _ _ | refine .trans ?_ (List.sublist_append_right _ _)))), ?_⟩
            refine d_tk0 7 (np_then (np_blk (np_then np_ret))) rfl (by kernel_rfl) (by kernel_rfl) (by kernel_rfl) (by kernel_rfl) (.inl (by first | exact SubL.out | repeat (first | exact .refl _ | exact List.nil_sublist _ | refine .cons_cons _ ?_ | refine .cons _ ?_ | refine .append (.refl _) ?_ | exact List.sublist_append_left _ _ | refine .trans ?_ (List.sublist_append_right _ _)))) ?_
            refine w_mov rfl (by (conv => lhs; whnf) <;> rfl) ?_
            refine w_nil ⟨rfl, rfl, ?_⟩
            refine d_tk0 8 (np_then (np_blk (np_then np_ret))) rfl (by kernel_rfl) (by kernel_rfl) (by kernel_rfl) (by kernel_rfl) (.inl (by first | exact SubL.out | repeat (first | exact .refl _ | exact List.nil_sublist _ | refine .cons_cons _ ?_ | refine .cons _ ?_ | refine .append (.refl _) ?_ | exact List.sublist_append_left _ _ | refine .trans ?_ (List.sublist_append_right _ _)))) ?_
            refine w_ext rfl (by (conv => lhs; whnf) <;> rfl) (by (conv => lhs; whnf) <;> rfl) ?_
            refine w_nil ⟨rfl, rfl, ?_⟩
            refine d_tk0 9 (np_then (np_blk (np_then np_ret))) rfl (by kernel_rfl) (by kernel_rfl) (by kernel_rfl) (by kernel_rfl) (.inl (by first | exact SubL.out | repeat (first | exact .refl _ | exact List.nil_sublist _ | refine .cons_cons _ ?_ | refine .cons _ ?_ | refine .append (.refl _) ?_ | exact List.sublist_append_left _ _ | refine .trans ?_ (List.sublist_append_right _ _)))) ?_
            refine w_ext rfl (by (conv => lhs; whnf) <;> rfl) (by (conv => lhs; whnf) <;> rfl) ?_
            refine w_nil ⟨rfl, rfl, ?_⟩
            refine d_tk0 10 (np_then (np_blk (np_then np_ret))) rfl (by kernel_rfl) (by kernel_rfl) (by kernel_rfl) (by kernel_rfl) (.inl (by first | exact SubL.out | repeat (first | exact .refl _ | exact List.nil_sublist _ | refine .cons_cons _ ?_ | refine .cons _ ?_ | refine .append (.refl _) ?_ | exact List.sublist_append_left _ _ | refine .trans ?_ (List.sublist_append_right _ _)))) ?_
            refine w_ext rfl (by (conv => lhs; whnf) <;> rfl) (by (conv => lhs; whnf) <;> rfl) ?_
            refine w_nil ⟨rfl, rfl, ?_⟩
            refine d_two 11 12 rfl rfl (by kernel_rfl) ?_ ?_
            · refine x_al rfl ?_
              intro b13
              refine w_nil ⟨rfl, (.inl (by first | exact SubL.out | repeat (first | exact .refl _ | exact List.nil_sublist _ | refine .cons_cons _ ?_ | refine .cons _ ?_ | refine .append (.refl _) ?_ | exact List.sublist_append_left _ _ | refine .trans ?_ (List.sublist_append_right _ _)))), ?_⟩
              refine d_one 12 rfl (by kernel_rfl) ?_
              refine x_al rfl ?_
              intro b14
              refine w_nil ⟨rfl, (.inl (by first | exact SubL.out | repeat (first | exact .refl _ | exact List.nil_sublist _ | refine .cons_cons _ ?_ | refine .cons _ ?_ | refine .append (.refl _) ?_ | exact List.sublist_append_left _ _ | refine .trans ?_ (List.sublist_append_right _ _)))), ?_⟩
              refine d_one 13 rfl (by kernel_rfl) ?_
              refine x_stw rfl (by (conv => lhs; whnf) <;> rfl) (by (conv => lhs; whnf) <;> rfl) (rfl) (hpo) (by first | exact HasC.out | exact PutC.out) (by exact rfl) ?_
              refine w_nil ⟨rfl, (.inl (by first | exact SubL.out | repeat (first | exact .refl _ | exact List.nil_sublist _ | refine .cons_cons _ ?_ | refine .cons _ ?_ | refine .append (.refl _) ?_ | exact List.sublist_append_left _ _ | refine .trans ?_ (List.sublist_append_right _ _)))), ?_⟩
              refine d_one 14 rfl (by kernel_rfl) ?_
              refine x_stw rfl (by (conv => lhs; whnf) <;> rfl) (by (conv => lhs; whnf) <;> rfl) rfl rfl (by first | exact HasC.out | exact PutC.out) rfl ?_
              refine w_nil ⟨rfl, (.inl (by first | exact SubL.out | repeat (first | exact .refl _ | exact List.nil_sublist _ | refine .cons_cons _ ?_ | refine .cons _ ?_ | refine .append (.refl _) ?_ | exact List.sublist_append_left _ _ | refine .trans ?_ (List.sublist_append_right _ _)))), ?_⟩
              refine d_tk0 15 (np_then (np_blk (np_then np_ret))) rfl (by kernel_rfl) (by kernel_rfl) (by kernel_rfl) (by kernel_rfl) (.inl (by first | exact SubL.out | repeat (first | exact .refl _ | exact List.nil_sublist _ | refine .cons_cons _ ?_ | refine .cons _ ?_ | refine .append (.refl _) ?_ | exact List.sublist_append_left _ _ | refine .trans ?_ (List.sublist_append_right _ _)))) ?_
              refine w_asg rfl (by (conv => lhs; whnf) <;> rfl) ?_
              refine w_nil ⟨rfl, rfl, ?_⟩
              refine d_done (by kernel_rfl) ?_
              refine tq_n ?_
              exact ⟨(by first | ((repeat (first | with_reducible exact Ag.refl | with_reducible exact Ag.ov | (with_reducible refine Ag.upd ?_ ?_; exact rfl) | with_reducible refine Ag.putn ?_ | (with_reducible refine Ag.ovs ?_ ?_; exact rfl))); done) | (repeat (first | exact Ag.refl | exact Ag.ov | (refine Ag.upd ?_ ?_; exact rfl) | refine Ag.putn ?_ | (refine Ag.ovs ?_ ?_; exact rfl)))), [(13, _), (14, _), (15, _)], _, (by first | (refine ⟨_, pm4 bf bm b13 b14 (S := S23), ?_⟩; ((first | exact SubL.out | repeat (first | exact .refl _ | exact List.nil_sublist _ | refine .cons_cons _ ?_ | refine .cons _ ?_ | refine .append (.refl _) ?_ | exact List.sublist_append_left _ _ | refine .trans ?_ (List.sublist_append_right _ _)))); done)), (by repeat (first | exact .nil | refine .cons rfl ?_)), ⟨_, _, _, _, _, _, _, _, _, _, _, _, _, _, _, rfl, hpt, hpo, hO, rfl⟩⟩
            · refine x_al rfl ?_
              intro b14
              refine w_nil ⟨rfl, (.inl (by first | exact SubL.out | repeat (first | exact .refl _ | exact List.nil_sublist _ | refine .cons_cons _ ?_ | refine .cons _ ?_ | refine .append (.refl _) ?_ | exact List.sublist_append_left _ _ | refine .trans ?_ (List.sublist_append_right _ _)))), ?_⟩
              refine d_one 11 rfl (by kernel_rfl) ?_
              refine x_al rfl ?_
              intro b13
              refine w_nil ⟨rfl, (.inl (by first | exact SubL.out | repeat (first | exact .refl _ | exact List.nil_sublist _ | refine .cons_cons _ ?_ | refine .cons _ ?_ | refine .append (.refl _) ?_ | exact List.sublist_append_left _ _ | refine .trans ?_ (List.sublist_append_right _ _)))), ?_⟩
              refine d_one 13 rfl (by kernel_rfl) ?_
              refine x_stw rfl (by (conv => lhs; whnf) <;> rfl) (by (conv => lhs; whnf) <;> rfl) (rfl) (hpo) (by first | exact HasC.out | exact PutC.out) (by exact rfl) ?_
              refine w_nil ⟨rfl, (.inl (by first | exact SubL.out | repeat (first | exact .refl _ | exact List.nil_sublist _ | refine .cons_cons _ ?_ | refine .cons _ ?_ | refine .append (.refl _) ?_ | exact List.sublist_append_left _ _ | refine .trans ?_ (List.sublist_append_right _ _)))), ?_⟩
              refine d_one 14 rfl (by kernel_rfl) ?_
              refine x_stw rfl (by (conv => lhs; whnf) <;> rfl) (by (conv => lhs; whnf) <;> rfl) rfl rfl (by first | exact HasC.out | exact PutC.out) rfl ?_
              refine w_nil ⟨rfl, (.inl (by first | exact SubL.out | repeat (first | exact .refl _ | exact List.nil_sublist _ | refine .cons_cons _ ?_ | refine .cons _ ?_ | refine .append (.refl _) ?_ | exact List.sublist_append_left _ _ | refine .trans ?_ (List.sublist_append_right _ _)))), ?_⟩
              refine d_tk0 15 (np_then (np_blk (np_then np_ret))) rfl (by kernel_rfl) (by kernel_rfl) (by kernel_rfl) (by kernel_rfl) (.inl (by first | exact SubL.out | repeat (first | exact .refl _ | exact List.nil_sublist _ | refine .cons_cons _ ?_ | refine .cons _ ?_ | refine .append (.refl _) ?_ | exact List.sublist_append_left _ _ | refine .trans ?_ (List.sublist_append_right _ _)))) ?_
              refine w_asg rfl (by (conv => lhs; whnf) <;> rfl) ?_
              refine w_nil ⟨rfl, rfl, ?_⟩
              refine d_done (by kernel_rfl) ?_
              refine tq_n ?_
              exact ⟨(by first | ((repeat (first | with_reducible exact Ag.refl | with_reducible exact Ag.ov | (with_reducible refine Ag.upd ?_ ?_; exact rfl) | with_reducible refine Ag.putn ?_ | (with_reducible refine Ag.ovs ?_ ?_; exact rfl))); done) | (repeat (first | exact Ag.refl | exact Ag.ov | (refine Ag.upd ?_ ?_; exact rfl) | refine Ag.putn ?_ | (refine Ag.ovs ?_ ?_; exact rfl)))), [(13, _), (14, _), (15, _)], _, (by first | (refine ⟨_, pm4 bf bm b13 b14 (S := S23), ?_⟩; ((first | exact SubL.out | repeat (first | exact .refl _ | exact List.nil_sublist _ | refine .cons_cons _ ?_ | refine .cons _ ?_ | refine .append (.refl _) ?_ | exact List.sublist_append_left _ _ | refine .trans ?_ (List.sublist_append_right _ _)))); done)), (by repeat (first | exact .nil | refine .cons rfl ?_)), ⟨_, _, _, _, _, _, _, _, _, _, _, _, _, _, _, rfl, hpt, hpo, hO, rfl⟩⟩
          · refine x_al rfl ?_
            intro b13
            refine w_nil ⟨rfl, (.inl (by first | exact SubL.out | repeat (first | exact .refl _ | exact List.nil_sublist _ | refine .cons_cons _ ?_ | refine .cons _ ?_ | refine .append (.refl _) ?_ | exact List.sublist_append_left _ _ | refine .trans ?_ (List.sublist_append_right _ _)))), ?_⟩
            refine d_two 6 12 rfl rfl (by kernel_rfl) ?_ ?_
            · refine x_call (put_g (hT.use (by first | exact SubL.out | repeat (first | exact .refl _ | exact List.nil_sublist _ | refine .cons_cons _ ?_ | refine .cons _ ?_ | refine .append (.refl _) ?_ | exact List.sublist_append_left _ _ | refine .trans ?_ (List.sublist_append_right _ _))))) rfl rfl rfl ?_
              rintro _ _ ⟨S23, rfl, hP⟩
              rw [hpt] at hP
              obtain ⟨tv, rfl, hO⟩ := hP
              obtain ⟨p0, p1, p2, p3, p4, p5, p6, p7, p8, rfl, hpo⟩ := tabO_cells hO
              refine w_nil ⟨rfl, (.inl (by first | exact SubL.out | repeat (first | exact .refl _ | exact List.nil_sublist _ | refine .cons_cons _ ?_ | refine .cons _ ?_ | refine .append (.refl _) ?_ | exact List.sublist_append_left _ _ | refine .trans ?_ (List.sublist_append_right _ _)))), ?_⟩
              refine d_tk0 7 (np_then (np_blk (np_then np_ret))) rfl (by kernel_rfl) (by kernel_rfl) (by kernel_rfl) (by kernel_rfl) (.inl (by first | exact SubL.out | repeat (first | exact .refl _ | exact List.nil_sublist _ | refine .cons_cons _ ?_ | refine .cons _ ?_ | refine .append (.refl _) ?_ | exact List.sublist_append_left _ _ | refine .trans ?_ (List.sublist_append_right _ _)))) ?_
              refine w_mov rfl (by (conv => lhs; whnf) <;> rfl) ?_
              refine w_nil ⟨rfl, rfl, ?_⟩
              refine d_tk0 8 (np_then (np_blk (np_then np_ret))) rfl (by kernel_rfl) (by kernel_rfl) (by kernel_rfl) (by kernel_rfl) (.inl (by first | exact SubL.out | repeat (first | exact .refl _ | exact List.nil_sublist _ | refine .cons_cons _ ?_ | refine .cons _ ?_ | refine .append (.refl _) ?_ | exact List.sublist_append_left _ _ | refine .trans ?_ (List.sublist_append_right _ _)))) ?_
              refine w_ext rfl (by (conv => lhs; whnf) <;> rfl) (by (conv => lhs; whnf) <;> rfl) ?_
              refine w_nil ⟨rfl, rfl, ?_⟩
              refine d_tk0 9 (np_then (np_blk (np_then np_ret))) rfl (by kernel_rfl) (by kernel_rfl) (by kernel_rfl) (by kernel_rfl) (.inl (by first | exact SubL.out | repeat (first | exact .refl _ | exact List.nil_sublist _ | refine .cons_cons _ ?_ | refine .cons _ ?_ | refine .append (.refl _) ?_ | exact List.sublist_append_left _ _ | refine .trans ?_ (List.sublist_append_right _ _)))) ?_
              refine w_ext rfl (by (conv => lhs; whnf) <;> rfl) (by (conv => lhs; whnf) <;> rfl) ?_
              refine w_nil ⟨rfl, rfl, ?_⟩
              refine d_tk0 10 (np_then (np_blk (np_then np_ret))) rfl (by kernel_rfl) (by kernel_rfl) (by kernel_rfl) (by kernel_rfl) (.inl (by first | exact SubL.out | repeat (first | exact .refl _ | exact List.nil_sublist _ | refine .cons_cons _ ?_ | refine .cons _ ?_ | refine .append (.refl _) ?_ | exact List.sublist_append_left _ _ | refine .trans ?_ (List.sublist_append_right _ _)))) ?_
              refine w_ext rfl (by (conv => lhs; whnf) <;> rfl) (by (conv => lhs; whnf) <;> rfl) ?_
              refine w_nil ⟨rfl, rfl, ?_⟩
              refine d_one 12 rfl (by kernel_rfl) ?_
              refine x_al rfl ?_
              intro b14
              refine w_nil ⟨rfl, (.inl (by first | exact SubL.out | repeat (first | exact .refl _ | exact List.nil_sublist _ | refine .cons_cons _ ?_ | refine .cons _ ?_ | refine .append (.refl _) ?_ | exact List.sublist_append_left _ _ | refine .trans ?_ (List.sublist_append_right _ _)))), ?_⟩
              refine d_one 13 rfl (by kernel_rfl) ?_
              refine x_stw rfl (by (conv => lhs; whnf) <;> rfl) (by (conv => lhs; whnf) <;> rfl) (rfl) (hpo) (by first | exact HasC.out | exact PutC.out) (by exact rfl) ?_
              refine w_nil ⟨rfl, (.inl (by first | exact SubL.out | repeat (first | exact .refl _ | exact List.nil_sublist _ | refine .cons_cons _ ?_ | refine .cons _ ?_ | refine .append (.refl _) ?_ | exact List.sublist_append_left _ _ | refine .trans ?_ (List.sublist_append_right _ _)))), ?_⟩
              refine d_one 14 rfl (by kernel_rfl) ?_
              refine x_stw rfl (by (conv => lhs; whnf) <;> rfl) (by (conv => lhs; whnf) <;> rfl) rfl rfl (by first | exact HasC.out | exact PutC.out) rfl ?_
              refine w_nil ⟨rfl, (.inl (by first | exact SubL.out | repeat (first | exact .refl _ | exact List.nil_sublist _ | refine .cons_cons _ ?_ | refine .cons _ ?_ | refine .append (.refl _) ?_ | exact List.sublist_append_left _ _ | refine .trans ?_ (List.sublist_append_right _ _)))), ?_⟩
              refine d_tk0 15 (np_then (np_blk (np_then np_ret))) rfl (by kernel_rfl) (by kernel_rfl) (by kernel_rfl) (by kernel_rfl) (.inl (by first | exact SubL.out | repeat (first | exact .refl _ | exact List.nil_sublist _ | refine .cons_cons _ ?_ | refine .cons _ ?_ | refine .append (.refl _) ?_ | exact List.sublist_append_left _ _ | refine .trans ?_ (List.sublist_append_right _ _)))) ?_
              refine w_asg rfl (by (conv => lhs; whnf) <;> rfl) ?_
              refine w_nil ⟨rfl, rfl, ?_⟩
              refine d_done (by kernel_rfl) ?_
              refine tq_n ?_
              exact ⟨(by first | ((repeat (first | with_reducible exact Ag.refl | with_reducible exact Ag.ov | (with_reducible refine Ag.upd ?_ ?_; exact rfl) | with_reducible refine Ag.putn ?_ | (with_reducible refine Ag.ovs ?_ ?_; exact rfl))); done) | (repeat (first | exact Ag.refl | exact Ag.ov | (refine Ag.upd ?_ ?_; exact rfl) | refine Ag.putn ?_ | (refine Ag.ovs ?_ ?_; exact rfl)))), [(13, _), (14, _), (15, _)], _, (by first | (refine ⟨_, pm4 bf bm b13 b14 (S := S23), ?_⟩; ((first | exact SubL.out | repeat (first | exact .refl _ | exact List.nil_sublist _ | refine .cons_cons _ ?_ | refine .cons _ ?_ | refine .append (.refl _) ?_ | exact List.sublist_append_left _ _ | refine .trans ?_ (List.sublist_append_right _ _)))); done)), (by repeat (first | exact .nil | refine .cons rfl ?_)), ⟨_, _, _, _, _, _, _, _, _, _, _, _, _, _, _, rfl, hpt, hpo, hO, rfl⟩⟩
            · refine x_al rfl ?_
              intro b14
              refine w_nil ⟨rfl, (.inl (by first | exact SubL.out | repeat (first | exact .refl _ | exact List.nil_sublist _ | refine .cons_cons _ ?_ | refine .cons _ ?_ | refine .append (.refl _) ?_ | exact List.sublist_append_left _ _ | refine .trans ?_ (List.sublist_append_right _ _)))), ?_⟩
              refine d_one 6 rfl (by kernel_rfl) ?_
              refine x_call (put_g (hT.use (by first | exact SubL.out | repeat (first | exact .refl _ | exact List.nil_sublist _ | refine .cons_cons _ ?_ | refine .cons _ ?_ | refine .append (.refl _) ?_ | exact List.sublist_append_left _ _ | refine .trans ?_ (List.sublist_append_right _ _))))) rfl rfl rfl ?_
              rintro _ _ ⟨S23, rfl, hP⟩
              rw [hpt] at hP
              obtain ⟨tv, rfl, hO⟩ := hP
              obtain ⟨p0, p1, p2, p3, p4, p5, p6, p7, p8, rfl, hpo⟩ := tabO_cells hO
              refine w_nil ⟨rfl, (.inl (by first | exact SubL.out | repeat (first | exact .refl _ | exact List.nil_sublist _ | refine .cons_cons _ ?_ | refine .cons _ ?_ | refine .append (.refl _) ?_ | exact List.sublist_append_left _ _ | refine .trans ?_ (List.sublist_append_right _ _)))), ?_⟩
              refine d_tk0 7 (np_then (np_blk (np_then np_ret))) rfl (by kernel_rfl) (by kernel_rfl) (by kernel_rfl) (by kernel_rfl) (.inl (by first | exact SubL.out | repeat (first | exact .refl _ | exact List.nil_sublist _ | refine .cons_cons _ ?_ | refine .cons _ ?_ | refine .append (.refl _) ?_ | exact List.sublist_append_left _ _ | refine .trans ?_ (List.sublist_append_right _ _)))) ?_
              refine w_mov rfl (by (conv => lhs; whnf) <;> rfl) ?_
              refine w_nil ⟨rfl, rfl, ?_⟩
              refine d_tk0 8 (np_then (np_blk (np_then np_ret))) rfl (by kernel_rfl) (by kernel_rfl) (by kernel_rfl) (by kernel_rfl) (.inl (by first | exact SubL.out | repeat (first | exact .refl _ | exact List.nil_sublist _ | refine .cons_cons _ ?_ | refine .cons _ ?_ | refine .append (.refl _) ?_ | exact List.sublist_append_left _ _ | refine .trans ?_ (List.sublist_append_right _ _)))) ?_
              refine w_ext rfl (by (conv => lhs; whnf) <;> rfl) (by (conv => lhs; whnf) <;> rfl) ?_
              refine w_nil ⟨rfl, rfl, ?_⟩
              refine d_tk0 9 (np_then (np_blk (np_then np_ret))) rfl (by kernel_rfl) (by kernel_rfl) (by kernel_rfl) (by kernel_rfl) (.inl (by first | exact SubL.out | repeat (first | exact .refl _ | exact List.nil_sublist _ | refine .cons_cons _ ?_ | refine .cons _ ?_ | refine .append (.refl _) ?_ | exact List.sublist_append_left _ _ | refine .trans ?_ (List.sublist_append_right _ _)))) ?_
              refine w_ext rfl (by (conv => lhs; whnf) <;> rfl) (by (conv => lhs; whnf) <;> rfl) ?_
              refine w_nil ⟨rfl, rfl, ?_⟩
              refine d_tk0 10 (np_then (np_blk (np_then np_ret))) rfl (by kernel_rfl) (by kernel_rfl) (by kernel_rfl) (by kernel_rfl) (.inl (by first | exact SubL.out | repeat (first | exact .refl _ | exact List.nil_sublist _ | refine .cons_cons _ ?_ | refine .cons _ ?_ | refine .append (.refl _) ?_ | exact List.sublist_append_left _ _ | refine .trans ?_ (List.sublist_append_right _ _)))) ?_
              refine w_ext rfl (by (conv => lhs; whnf) <;> rfl) (by (conv => lhs; whnf) <;> rfl) ?_
              refine w_nil ⟨rfl, rfl, ?_⟩
              refine d_one 13 rfl (by kernel_rfl) ?_
              refine x_stw rfl (by (conv => lhs; whnf) <;> rfl) (by (conv => lhs; whnf) <;> rfl) (rfl) (hpo) (by first | exact HasC.out | exact PutC.out) (by exact rfl) ?_
              refine w_nil ⟨rfl, (.inl (by first | exact SubL.out | repeat (first | exact .refl _ | exact List.nil_sublist _ | refine .cons_cons _ ?_ | refine .cons _ ?_ | refine .append (.refl _) ?_ | exact List.sublist_append_left _ _ | refine .trans ?_ (List.sublist_append_right _ _)))), ?_⟩
              refine d_one 14 rfl (by kernel_rfl) ?_
              refine x_stw rfl (by (conv => lhs; whnf) <;> rfl) (by (conv => lhs; whnf) <;> rfl) rfl rfl (by first | exact HasC.out | exact PutC.out) rfl ?_
              refine w_nil ⟨rfl, (.inl (by first | exact SubL.out | repeat (first | exact .refl _ | exact List.nil_sublist _ | refine .cons_cons _ ?_ | refine .cons _ ?_ | refine .append (.refl _) ?_ | exact List.sublist_append_left _ _ | refine .trans ?_ (List.sublist_append_right _ _)))), ?_⟩
              refine d_tk0 15 (np_then (np_blk (np_then np_ret))) rfl (by kernel_rfl) (by kernel_rfl) (by kernel_rfl) (by kernel_rfl) (.inl (by first | exact SubL.out | repeat (first | exact .refl _ | exact List.nil_sublist _ | refine .cons_cons _ ?_ | refine .cons _ ?_ | refine .append (.refl _) ?_ | exact List.sublist_append_left _ _ | refine .trans ?_ (List.sublist_append_right _ _)))) ?_
              refine w_asg rfl (by (conv => lhs; whnf) <;> rfl) ?_
              refine w_nil ⟨rfl, rfl, ?_⟩
              refine d_done (by kernel_rfl) ?_
              refine tq_n ?_
              exact ⟨(by first | ((repeat (first | with_reducible exact Ag.refl | with_reducible exact Ag.ov | (with_reducible refine Ag.upd ?_ ?_; exact rfl) | with_reducible refine Ag.putn ?_ | (with_reducible refine Ag.ovs ?_ ?_; exact rfl))); done) | (repeat (first | exact Ag.refl | exact Ag.ov | (refine Ag.upd ?_ ?_; exact rfl) | refine Ag.putn ?_ | (refine Ag.ovs ?_ ?_; exact rfl)))), [(13, _), (14, _), (15, _)], _, (by first | (refine ⟨_, pm4 bf bm b13 b14 (S := S23), ?_⟩; ((first | exact SubL.out | repeat (first | exact .refl _ | exact List.nil_sublist _ | refine .cons_cons _ ?_ | refine .cons _ ?_ | refine .append (.refl _) ?_ | exact List.sublist_append_left _ _ | refine .trans ?_ (List.sublist_append_right _ _)))); done)), (by repeat (first | exact .nil | refine .cons rfl ?_)), ⟨_, _, _, _, _, _, _, _, _, _, _, _, _, _, _, rfl, hpt, hpo, hO, rfl⟩⟩
          · refine x_al rfl ?_
            intro b14
            refine w_nil ⟨rfl, (.inl (by first | exact SubL.out | repeat (first | exact .refl _ | exact List.nil_sublist _ | refine .cons_cons _ ?_ | refine .cons _ ?_ | refine .append (.refl _) ?_ | exact List.sublist_append_left _ _ | refine .trans ?_ (List.sublist_append_right _ _)))), ?_⟩
            refine d_two 6 11 rfl rfl (by kernel_rfl) ?_ ?_
            · refine x_call (put_g (hT.use (by first | exact SubL.out | repeat (first | exact .refl _ | exact List.nil_sublist _ | refine .cons_cons _ ?_ | refine .cons _ ?_ | refine .append (.refl _) ?_ | exact List.sublist_append_left _ _ | refine .trans ?_ (List.sublist_append_right _ _))))) rfl rfl rfl ?_
              rintro _ _ ⟨S23, rfl, hP⟩
              rw [hpt] at hP
              obtain ⟨tv, rfl, hO⟩ := hP
              obtain ⟨p0, p1, p2, p3, p4, p5, p6, p7, p8, rfl, hpo⟩ := tabO_cells hO
              refine w_nil ⟨rfl, (.inl (by first | exact SubL.out | repeat (first | exact .refl _ | exact List.nil_sublist _ | refine .cons_cons _ ?_ | refine .cons _ ?_ | refine .append (.refl _) ?_ | exact List.sublist_append_left _ _ | refine .trans ?_ (List.sublist_append_right _ _)))), ?_⟩
              refine d_tk0 7 (np_then (np_blk (np_then np_ret))) rfl (by kernel_rfl) (by kernel_rfl) (by kernel_rfl) (by kernel_rfl) (.inl (by first | exact SubL.out | repeat (first | exact .refl _ | exact List.nil_sublist _ | refine .cons_cons _ ?_ | refine .cons _ ?_ | refine .append (.refl _) ?_ | exact List.sublist_append_left _ _ | refine .trans ?_ (List.sublist_append_right _ _)))) ?_
              refine w_mov rfl (by (conv => lhs; whnf) <;> rfl) ?_
              refine w_nil ⟨rfl, rfl, ?_⟩
              refine d_tk0 8 (np_then (np_blk (np_then np_ret))) rfl (by kernel_rfl) (by kernel_rfl) (by kernel_rfl) (by kernel_rfl) (.inl (by first | exact SubL.out | repeat (first | exact .refl _ | exact List.nil_sublist _ | refine .cons_cons _ ?_ | refine .cons _ ?_ | refine .append (.refl _) ?_ | exact List.sublist_append_left _ _ | refine .trans ?_ (List.sublist_append_right _ _)))) ?_
              refine w_ext rfl (by (conv => lhs; whnf) <;> rfl) (by (conv => lhs; whnf) <;> rfl) ?_
              refine w_nil ⟨rfl, rfl, ?_⟩
              refine d_tk0 9 (np_then (np_blk (np_then np_ret))) rfl (by kernel_rfl) (by kernel_rfl) (by kernel_rfl) (by kernel_rfl) (.inl (by first | exact SubL.out | repeat (first | exact .refl _ | exact List.nil_sublist _ | refine .cons_cons _ ?_ | refine .cons _ ?_ | refine .append (.refl _) ?_ | exact List.sublist_append_left _ _ | refine .trans ?_ (List.sublist_append_right _ _)))) ?_
              refine w_ext rfl (by (conv => lhs; whnf) <;> rfl) (by (conv => lhs; whnf) <;> rfl) ?_
              refine w_nil ⟨rfl, rfl, ?_⟩
              refine d_tk0 10 (np_then (np_blk (np_then np_ret))) rfl (by kernel_rfl) (by kernel_rfl) (by kernel_rfl) (by kernel_rfl) (.inl (by first | exact SubL.out | repeat (first | exact .refl _ | exact List.nil_sublist _ | refine .cons_cons _ ?_ | refine .cons _ ?_ | refine .append (.refl _) ?_ | exact List.sublist_append_left _ _ | refine .trans ?_ (List.sublist_append_right _ _)))) ?_
              refine w_ext rfl (by (conv => lhs; whnf) <;> rfl) (by (conv => lhs; whnf) <;> rfl) ?_
              refine w_nil ⟨rfl, rfl, ?_⟩
              refine d_one 11 rfl (by kernel_rfl) ?_
              refine x_al rfl ?_
              intro b13
              refine w_nil ⟨rfl, (.inl (by first | exact SubL.out | repeat (first | exact .refl _ | exact List.nil_sublist _ | refine .cons_cons _ ?_ | refine .cons _ ?_ | refine .append (.refl _) ?_ | exact List.sublist_append_left _ _ | refine .trans ?_ (List.sublist_append_right _ _)))), ?_⟩
              refine d_one 13 rfl (by kernel_rfl) ?_
              refine x_stw rfl (by (conv => lhs; whnf) <;> rfl) (by (conv => lhs; whnf) <;> rfl) (rfl) (hpo) (by first | exact HasC.out | exact PutC.out) (by exact rfl) ?_
              refine w_nil ⟨rfl, (.inl (by first | exact SubL.out | repeat (first | exact .refl _ | exact List.nil_sublist _ | refine .cons_cons _ ?_ | refine .cons _ ?_ | refine .append (.refl _) ?_ | exact List.sublist_append_left _ _ | refine .trans ?_ (List.sublist_append_right _ _)))), ?_⟩
              refine d_one 14 rfl (by kernel_rfl) ?_
              refine x_stw rfl (by (conv => lhs; whnf) <;> rfl) (by (conv => lhs; whnf) <;> rfl) rfl rfl (by first | exact HasC.out | exact PutC.out) rfl ?_
              refine w_nil ⟨rfl, (.inl (by first | exact SubL.out | repeat (first | exact .refl _ | exact List.nil_sublist _ | refine .cons_cons _ ?_ | refine .cons _ ?_ | refine .append (.refl _) ?_ | exact List.sublist_append_left _ _ | refine .trans ?_ (List.sublist_append_right _ _)))), ?_⟩
              refine d_tk0 15 (np_then (np_blk (np_then np_ret))) rfl (by kernel_rfl) (by kernel_rfl) (by kernel_rfl) (by kernel_rfl) (.inl (by first | exact SubL.out | repeat (first | exact .refl _ | exact List.nil_sublist _ | refine .cons_cons _ ?_ | refine .cons _ ?_ | refine .append (.refl _) ?_ | exact List.sublist_append_left _ _ | refine .trans ?_ (List.sublist_append_right _ _)))) ?_
              refine w_asg rfl (by (conv => lhs; whnf) <;> rfl) ?_
              refine w_nil ⟨rfl, rfl, ?_⟩
              refine d_done (by kernel_rfl) ?_
              refine tq_n ?_
              exact ⟨(by first | ((repeat (first | with_reducible exact Ag.refl | with_reducible exact Ag.ov | (with_reducible refine Ag.upd ?_ ?_; exact rfl) | with_reducible refine Ag.putn ?_ | (with_reducible refine Ag.ovs ?_ ?_; exact rfl))); done) | (repeat (first | exact Ag.refl | exact Ag.ov | (refine Ag.upd ?_ ?_; exact rfl) | refine Ag.putn ?_ | (refine Ag.ovs ?_ ?_; exact rfl)))), [(13, _), (14, _), (15, _)], _, (by first | (refine ⟨_, pm4 bf bm b13 b14 (S := S23), ?_⟩; ((first | exact SubL.out | repeat (first | exact .refl _ | exact List.nil_sublist _ | refine .cons_cons _ ?_ | refine .cons _ ?_ | refine .append (.refl _) ?_ | exact List.sublist_append_left _ _ | refine .trans ?_ (List.sublist_append_right _ _)))); done)), (by repeat (first | exact .nil | refine .cons rfl ?_)), ⟨_, _, _, _, _, _, _, _, _, _, _, _, _, _, _, rfl, hpt, hpo, hO, rfl⟩⟩
            · refine x_al rfl ?_
              intro b13
              refine w_nil ⟨rfl, (.inl (by first | exact SubL.out | repeat (first | exact .refl _ | exact List.nil_sublist _ | refine .cons_cons _ ?_ | refine .cons _ ?_ | refine .append (.refl _) ?_ | exact List.sublist_append_left _ _ | refine .trans ?_ (List.sublist_append_right _ _)))), ?_⟩
              refine d_one 6 rfl (by kernel_rfl) ?_
              refine x_call (put_g (hT.use (by first | exact SubL.out | repeat (first | exact .refl _ | exact List.nil_sublist _ | refine .cons_cons _ ?_ | refine .cons _ ?_ | refine .append (.refl _) ?_ | exact List.sublist_append_left _ _ | refine .trans ?_ (List.sublist_append_right _ _))))) rfl rfl rfl ?_
              rintro _ _ ⟨S23, rfl, hP⟩
              rw [hpt] at hP
              obtain ⟨tv, rfl, hO⟩ := hP
              obtain ⟨p0, p1, p2, p3, p4, p5, p6, p7, p8, rfl, hpo⟩ := tabO_cells hO
              refine w_nil ⟨rfl, (.inl (by first | exact SubL.out | repeat (first | exact .refl _ | exact List.nil_sublist _ | refine .cons_cons _ ?_ | refine .cons _ ?_ | refine .append (.refl _) ?_ | exact List.sublist_append_left _ _ | refine .trans ?_ (List.sublist_append_right _ _)))), ?_⟩
              refine d_tk0 7 (np_then (np_blk (np_then np_ret))) rfl (by kernel_rfl) (by kernel_rfl) (by kernel_rfl) (by kernel_rfl) (.inl (by first | exact SubL.out | repeat (first | exact .refl _ | exact List.nil_sublist _ | refine .cons_cons _ ?_ | refine .cons _ ?_ | refine .append (.refl _) ?_ | exact List.sublist_append_left _ _ | refine .trans ?_ (List.sublist_append_right _ _)))) ?_
              refine w_mov rfl (by (conv => lhs; whnf) <;> rfl) ?_
              refine w_nil ⟨rfl, rfl, ?_⟩
              refine d_tk0 8 (np_then (np_blk (np_then np_ret))) rfl (by kernel_rfl) (by kernel_rfl) (by kernel_rfl) (by kernel_rfl) (.inl (by first | exact SubL.out | repeat (first | exact .refl _ | exact List.nil_sublist _ | refine .cons_cons _ ?_ | refine .cons _ ?_ | refine .append (.refl _) ?_ | exact List.sublist_append_left _ _ | refine .trans ?_ (List.sublist_append_right _ _)))) ?_
              refine w_ext rfl (by (conv => lhs; whnf) <;> rfl) (by (conv => lhs; whnf) <;> rfl) ?_
              refine w_nil ⟨rfl, rfl, ?_⟩
              refine d_tk0 9 (np_then (np_blk (np_then np_ret))) rfl (by kernel_rfl) (by kernel_rfl) (by kernel_rfl) (by kernel_rfl) (.inl (by first | exact SubL.out | repeat (first | exact .refl _ | exact List.nil_sublist _ | refine .cons_cons _ ?_ | refine .cons _ ?_ | refine .append (.refl _) ?_ | exact List.sublist_append_left _ _ | refine .trans ?_ (List.sublist_append_right _ _)))) ?_
              refine w_ext rfl (by (conv => lhs; whnf) <;> rfl) (by (conv => lhs; whnf) <;> rfl) ?_
              refine w_nil ⟨rfl, rfl, ?_⟩
              refine d_tk0 10 (np_then (np_blk (np_then np_ret))) rfl (by kernel_rfl) (by kernel_rfl) (by kernel_rfl) (by kernel_rfl) (.inl (by first | exact SubL.out | repeat (first | exact .refl _ | exact List.nil_sublist _ | refine .cons_cons _ ?_ | refine .cons _ ?_ | refine .append (.refl _) ?_ | exact List.sublist_append_left _ _ | refine .trans ?_ (List.sublist_append_right _ _)))) ?_
              refine w_ext rfl (by (conv => lhs; whnf) <;> rfl) (by (conv => lhs; whnf) <;> rfl) ?_
              refine w_nil ⟨rfl, rfl, ?_⟩
              refine d_one 13 rfl (by kernel_rfl) ?_
              refine x_stw rfl (by (conv => lhs; whnf) <;> rfl) (by (conv => lhs; whnf) <;> rfl) (rfl) (hpo) (by first | exact HasC.out | exact PutC.out) (by exact rfl) ?_
              refine w_nil ⟨rfl, (.inl (by first | exact SubL.out | repeat (first | exact .refl _ | exact List.nil_sublist _ | refine .cons_cons _ ?_ | refine .cons _ ?_ | refine .append (.refl _) ?_ | exact List.sublist_append_left _ _ | refine .trans ?_ (List.sublist_append_right _ _)))), ?_⟩
              refine d_one 14 rfl (by kernel_rfl) ?_
              refine x_stw rfl (by (conv => lhs; whnf) <;> rfl) (by (conv => lhs; whnf) <;> rfl) rfl rfl (by first | exact HasC.out | exact PutC.out) rfl ?_
              refine w_nil ⟨rfl, (.inl (by first | exact SubL.out | repeat (first | exact .refl _ | exact List.nil_sublist _ | refine .cons_cons _ ?_ | refine .cons _ ?_ | refine .append (.refl _) ?_ | exact List.sublist_append_left _ _ | refine .trans ?_ (List.sublist_append_right _ _)))), ?_⟩
              refine d_tk0 15 (np_then (np_blk (np_then np_ret))) rfl (by kernel_rfl) (by kernel_rfl) (by kernel_rfl) (by kernel_rfl) (.inl (by first | exact SubL.out | repeat (first | exact .refl _ | exact List.nil_sublist _ | refine .cons_cons _ ?_ | refine .cons _ ?_ | refine .append (.refl _) ?_ | exact List.sublist_append_left _ _ | refine .trans ?_ (List.sublist_append_right _ _)))) ?_
              refine w_asg rfl (by (conv => lhs; whnf) <;> rfl) ?_
              refine w_nil ⟨rfl, rfl, ?_⟩
              refine d_done (by kernel_rfl) ?_
              refine tq_n ?_
              exact ⟨(by first | ((repeat (first | with_reducible exact Ag.refl | with_reducible exact Ag.ov | (with_reducible refine Ag.upd ?_ ?_; exact rfl) | with_reducible refine Ag.putn ?_ | (with_reducible refine Ag.ovs ?_ ?_; exact rfl))); done) | (repeat (first | exact Ag.refl | exact Ag.ov | (refine Ag.upd ?_ ?_; exact rfl) | refine Ag.putn ?_ | (refine Ag.ovs ?_ ?_; exact rfl)))), [(13, _), (14, _), (15, _)], _, (by first | (refine ⟨_, pm4 bf bm b13 b14 (S := S23), ?_⟩; ((first | exact SubL.out | repeat (first | exact .refl _ | exact List.nil_sublist _ | refine .cons_cons _ ?_ | refine .cons _ ?_ | refine .append (.refl _) ?_ | exact List.sublist_append_left _ _ | refine .trans ?_ (List.sublist_append_right _ _)))); done)), (by repeat (first | exact .nil | refine .cons rfl ?_)), ⟨_, _, _, _, _, _, _, _, _, _, _, _, _, _, _, rfl, hpt, hpo, hO, rfl⟩⟩
        · rintro sM LM gM ⟨b13, b14, S23, p0, p1, p2, p3, p4, p5, p6, p7, p8, t', pa1, pb1, rfl, hpt, hpo, hO, rfl⟩
          refine c_seq ?_
          refine d_begin_s ((show List.Sublist [(b13, _), (b14, _)] _ from (by first | exact SubL.out | repeat (first | exact .refl _ | exact List.nil_sublist _ | refine .cons_cons _ ?_ | refine .cons _ ?_ | refine .append (.refl _) ?_ | exact List.sublist_append_left _ _ | refine .trans ?_ (List.sublist_append_right _ _))))) [] mixed ?_
          refine d_tk0 0 (np_then (np_blk (np_then np_ret))) rfl (by kernel_rfl) (by kernel_rfl) (by kernel_rfl) (by kernel_rfl) (.inl (by first | exact SubL.out | repeat (first | exact .refl _ | exact List.nil_sublist _ | refine .cons_cons _ ?_ | refine .cons _ ?_ | refine .append (.refl _) ?_ | exact List.sublist_append_left _ _ | refine .trans ?_ (List.sublist_append_right _ _)))) ?_
          refine w_mov rfl (by (conv => lhs; whnf) <;> rfl) ?_
          refine w_nil ⟨rfl, rfl, ?_⟩
          refine d_tk0 1 (np_then (np_blk (np_then np_ret))) rfl (by kernel_rfl) (by kernel_rfl) (by kernel_rfl) (by kernel_rfl) (.inl (by first | exact SubL.out | repeat (first | exact .refl _ | exact List.nil_sublist _ | refine .cons_cons _ ?_ | refine .cons _ ?_ | refine .append (.refl _) ?_ | exact List.sublist_append_left _ _ | refine .trans ?_ (List.sublist_append_right _ _)))) ?_
          refine w_mov rfl (by (conv => lhs; whnf) <;> rfl) ?_
          refine w_nil ⟨rfl, rfl, ?_⟩
          refine d_tk0 2 (np_then (np_blk (np_then np_ret))) rfl (by kernel_rfl) (by kernel_rfl) (by kernel_rfl) (by kernel_rfl) (.inl (by first | exact SubL.out | repeat (first | exact .refl _ | exact List.nil_sublist _ | refine .cons_cons _ ?_ | refine .cons _ ?_ | refine .append (.refl _) ?_ | exact List.sublist_append_left _ _ | refine .trans ?_ (List.sublist_append_right _ _)))) ?_
          refine w_nilck rfl (by (conv => lhs; whnf) <;> rfl) ?_
          refine w_nil ⟨rfl, rfl, ?_⟩
          refine d_tk0 3 (np_then (np_blk (np_then np_ret))) rfl (by kernel_rfl) (by kernel_rfl) (by kernel_rfl) (by kernel_rfl) (.inl (by first | exact SubL.out | repeat (first | exact .refl _ | exact List.nil_sublist _ | refine .cons_cons _ ?_ | refine .cons _ ?_ | refine .append (.refl _) ?_ | exact List.sublist_append_left _ _ | refine .trans ?_ (List.sublist_append_right _ _)))) ?_
          refine x_fa rfl (by (conv => lhs; whnf) <;> rfl) ?_
          refine w_nil ⟨rfl, rfl, ?_⟩
          refine d_tk 5 (np_then (np_blk (np_then np_ret))) rfl (by kernel_rfl) (by kernel_rfl) (by kernel_rfl) (by kernel_rfl) (by kernel_rfl) (by first | exact SubL.out | repeat (first | exact .refl _ | exact List.nil_sublist _ | refine .cons_cons _ ?_ | refine .cons _ ?_ | refine .append (.refl _) ?_ | exact List.sublist_append_left _ _ | refine .trans ?_ (List.sublist_append_right _ _))) ?_
          refine x_ldao rfl (by (conv => lhs; whnf) <;> rfl) (by first | exact HasC.out | exact PutC.out) rfl ?_
          refine w_nil ⟨rfl, rfl, ?_⟩
          refine d_tk 6 (np_then (np_blk (np_then np_ret))) rfl (by kernel_rfl) (by kernel_rfl) (by kernel_rfl) (by kernel_rfl) (by kernel_rfl) (by first | exact SubL.out | repeat (first | exact .refl _ | exact List.nil_sublist _ | refine .cons_cons _ ?_ | refine .cons _ ?_ | refine .append (.refl _) ?_ | exact List.sublist_append_left _ _ | refine .trans ?_ (List.sublist_append_right _ _))) ?_
          refine x_ldao rfl (by (conv => lhs; whnf) <;> rfl) (by first | exact HasC.out | exact PutC.out) rfl ?_
          refine w_nil ⟨rfl, rfl, ?_⟩
          refine d_tk0 7 (np_then (np_blk (np_then np_ret))) rfl (by kernel_rfl) (by kernel_rfl) (by kernel_rfl) (by kernel_rfl) (.inl (by first | exact SubL.out | repeat (first | exact .refl _ | exact List.nil_sublist _ | refine .cons_cons _ ?_ | refine .cons _ ?_ | refine .append (.refl _) ?_ | exact List.sublist_append_left _ _ | refine .trans ?_ (List.sublist_append_right _ _)))) ?_
          refine w_mov rfl (by (conv => lhs; whnf) <;> rfl) ?_
          refine w_nil ⟨rfl, rfl, ?_⟩
          refine d_one 4 rfl (by kernel_rfl) ?_
          refine x_ldo rfl (by (conv => lhs; whnf) <;> rfl) (by first | exact HasC.out | exact PutC.out) (by (conv => lhs; whnf) <;> rfl) ?_
          refine w_nil ⟨rfl, (.inl (by first | exact SubL.out | repeat (first | exact .refl _ | exact List.nil_sublist _ | refine .cons_cons _ ?_ | refine .cons _ ?_ | refine .append (.refl _) ?_ | exact List.sublist_append_left _ _ | refine .trans ?_ (List.sublist_append_right _ _)))), ?_⟩
          refine d_tk0 8 (np_then (np_blk (np_then np_ret))) rfl (by kernel_rfl) (by kernel_rfl) (by kernel_rfl) (by kernel_rfl) (.inl (by first | exact SubL.out | repeat (first | exact .refl _ | exact List.nil_sublist _ | refine .cons_cons _ ?_ | refine .cons _ ?_ | refine .append (.refl _) ?_ | exact List.sublist_append_left _ _ | refine .trans ?_ (List.sublist_append_right _ _)))) ?_
          refine w_nilck rfl (by (conv => lhs; whnf) <;> rfl) ?_
          refine w_nil ⟨rfl, rfl, ?_⟩
          refine d_tk0 9 (np_then (np_blk (np_then np_ret))) rfl (by kernel_rfl) (by kernel_rfl) (by kernel_rfl) (by kernel_rfl) (.inl (by first | exact SubL.out | repeat (first | exact .refl _ | exact List.nil_sublist _ | refine .cons_cons _ ?_ | refine .cons _ ?_ | refine .append (.refl _) ?_ | exact List.sublist_append_left _ _ | refine .trans ?_ (List.sublist_append_right _ _)))) ?_
          refine x_fa rfl (by (conv => lhs; whnf) <;> rfl) ?_
          refine w_nil ⟨rfl, rfl, ?_⟩
          refine d_one 10 rfl (by kernel_rfl) ?_
          refine x_stp rfl (by (conv => lhs; whnf) <;> rfl) (by (conv => lhs; whnf) <;> rfl) (rfl) (hpo) (by first | exact HasC.out | exact PutC.out) rfl ?_
          refine w_nil ⟨rfl, (.inl (by first | exact SubL.out | repeat (first | exact .refl _ | exact List.nil_sublist _ | refine .cons_cons _ ?_ | refine .cons _ ?_ | refine .append (.refl _) ?_ | exact List.sublist_append_left _ _ | refine .trans ?_ (List.sublist_append_right _ _)))), ?_⟩
          refine d_one 11 rfl (by kernel_rfl) ?_
          refine x_me ((pa1, pb1)) (Lf := (fun o => (bf, B 74 [p0, p1, p2, p3, p4, p5, p6, p7, p8, .map (some bm)]) :: (bm, o) :: (b13, _) :: (b14, _) :: (S23 ++ _))) rfl (by (conv => lhs; whnf) <;> rfl) (by (conv => lhs; whnf) <;> rfl) ((fun _ => .there .here)) (hpm) ?_
          rintro es1 clk1 v0 st hpm1 hst
          refine w_nil ⟨rfl, (.inl (by first | exact SubL.out | repeat (first | exact .refl _ | exact List.nil_sublist _ | refine .cons_cons _ ?_ | refine .cons _ ?_ | refine .append (.refl _) ?_ | exact List.sublist_append_left _ _ | refine .trans ?_ (List.sublist_append_right _ _)))), ?_⟩
          refine d_tk0 12 (np_then (np_blk (np_then np_ret))) rfl (by kernel_rfl) (by kernel_rfl) (by kernel_rfl) (by kernel_rfl) (.inl (by first | exact SubL.out | repeat (first | exact .refl _ | exact List.nil_sublist _ | refine .cons_cons _ ?_ | refine .cons _ ?_ | refine .append (.refl _) ?_ | exact List.sublist_append_left _ _ | refine .trans ?_ (List.sublist_append_right _ _)))) ?_
          refine w_ext rfl (by (conv => lhs; whnf) <;> rfl) (by (conv => lhs; whnf) <;> rfl) ?_
          refine w_nil ⟨rfl, rfl, ?_⟩
          refine d_one 13 rfl (by kernel_rfl) ?_
          refine x_es ((pa1, pb1)) (value) (st) (Lf := (fun o => (bf, B 74 [p0, p1, p2, p3, p4, p5, p6, p7, p8, .map (some bm)]) :: (bm, o) :: (b13, _) :: (b14, _) :: (S23 ++ _))) rfl (by (conv => lhs; whnf) <;> rfl) (by (conv => lhs; whnf) <;> rfl) (by (conv => lhs; whnf) <;> rfl) ((fun _ => .there .here)) (hpm1) (hst) ?_
          rintro es2 clk2 hpm2
          refine w_nil ⟨rfl, (.inl (by first | exact SubL.out | repeat (first | exact .refl _ | exact List.nil_sublist _ | refine .cons_cons _ ?_ | refine .cons _ ?_ | refine .append (.refl _) ?_ | exact List.sublist_append_left _ _ | refine .trans ?_ (List.sublist_append_right _ _)))), ?_⟩
          refine d_done (by kernel_rfl) ?_
          refine tq_n ?_
          refine c_seq ?_
          refine c_region ?_
          refine w_mov rfl (by (conv => lhs; whnf) <;> rfl) ?_
          refine w_eql rfl (by (conv => lhs; whnf) <;> rfl) (by (conv => lhs; whnf) <;> rfl) ?_
          refine w_asg rfl (by (conv => lhs; whnf) <;> rfl) ?_
          refine w_asg rfl (by (conv => lhs; whnf) <;> rfl) ?_
          refine w_nil ?_
          refine tq_n ?_
          refine c_ret ?_
          refine bq_r ?_
          refine tq_r ?_
          exact rq_r (ra_t (by (conv => lhs; whnf) <;> rfl) (ra_t (by (conv => lhs; whnf) <;> rfl) .nil)) (.cons_cons _ (.cons_cons _ (.cons _ (.cons _ (List.Sublist.append (.refl _) (.cons _ (List.sublist_append_right _ _))))))) (⟨t', _, true, .put hc35 hpt, rfl, _, _, _, _, _, _, _, _, _, es2, clk2, S23, rfl, hpo, hO, hpm2⟩)
      · refine c_mid_ov [64, 63, 65] (fun s L => s = [(63, .bool (decide (k = 3 ∨ k = 4)))] ∧ L = (b5, B 45 [.int .i64 k, .int .i64 b]) :: (bf, B 74 [c0, c1, c2, c3, c4, .int .i64 t.sp, c6, c7, c8, .map (some bm)]) :: (bm, .map es clk) :: (S ++ R)) ?_ ?_
        · refine c_seq ?_
          refine c_region ?_
          refine w_eql rfl (by (conv => lhs; whnf) <;> rfl) (by (conv => lhs; whnf) <;> rfl) ?_
          refine w_asg rfl (by (conv => lhs; whnf) <;> rfl) ?_
          refine w_nil ?_
          refine tq_n ?_
          refine c_cond_d (by (conv => lhs; whnf) <;> rfl) (fun hc63 => ?_) (fun hc63 => ?_)
          · refine c_skip ?_
            refine tq_n ?_
            exact ⟨(by first | ((repeat (first | with_reducible exact Ag.refl | with_reducible exact Ag.ov | (with_reducible refine Ag.upd ?_ ?_; exact rfl) | with_reducible refine Ag.putn ?_ | (with_reducible refine Ag.ovs ?_ ?_; exact rfl))); done) | (repeat (first | exact Ag.refl | exact Ag.ov | (refine Ag.upd ?_ ?_; exact rfl) | refine Ag.putn ?_ | (refine Ag.ovs ?_ ?_; exact rfl)))), [(63, _)], _, (by first | exact SubL.out | repeat (first | exact .refl _ | exact List.nil_sublist _ | refine .cons_cons _ ?_ | refine .cons _ ?_ | refine .append (.refl _) ?_ | exact List.sublist_append_left _ _ | refine .trans ?_ (List.sublist_append_right _ _))), (by repeat (first | exact .nil | refine .cons rfl ?_)), ⟨congrArg (fun x => [(63, Value.bool x)]) (decide_eq_decide.2 (by omega)), rfl⟩⟩
          · refine c_region ?_
            refine w_eql rfl (by (conv => lhs; whnf) <;> rfl) (by (conv => lhs; whnf) <;> rfl) ?_
            refine w_asg rfl (by (conv => lhs; whnf) <;> rfl) ?_
            refine w_nil ?_
            refine tq_n ?_
            exact ⟨(by first | ((repeat (first | with_reducible exact Ag.refl | with_reducible exact Ag.ov | (with_reducible refine Ag.upd ?_ ?_; exact rfl) | with_reducible refine Ag.putn ?_ | (with_reducible refine Ag.ovs ?_ ?_; exact rfl))); done) | (repeat (first | exact Ag.refl | exact Ag.ov | (refine Ag.upd ?_ ?_; exact rfl) | refine Ag.putn ?_ | (refine Ag.ovs ?_ ?_; exact rfl)))), [(63, _)], _, (by first | exact SubL.out | repeat (first | exact .refl _ | exact List.nil_sublist _ | refine .cons_cons _ ?_ | refine .cons _ ?_ | refine .append (.refl _) ?_ | exact List.sublist_append_left _ _ | refine .trans ?_ (List.sublist_append_right _ _))), (by repeat (first | exact .nil | refine .cons rfl ?_)), ⟨congrArg (fun x => [(63, Value.bool x)]) (decide_eq_decide.2 (by omega)), rfl⟩⟩
        · rintro sM LM gM ⟨rfl, rfl⟩
          refine c_cond_d (by (conv => lhs; whnf) <;> rfl) (fun hc63 => ?_) (fun hc63 => ?_)
          · refine c_seq ?_
            obtain ⟨t', hot⟩ := hC.opn hc63 n hn
            refine c_region ?_
            refine w_mov rfl (by (conv => lhs; whnf) <;> rfl) ?_
            refine w_mov rfl (by (conv => lhs; whnf) <;> rfl) ?_
            refine x_bs1 rfl (by (conv => lhs; whnf) <;> rfl) rfl rfl rfl rfl ?_
            intro b68
            refine x_call (erase_g (Lf := fun o => (b68, B 3 [.int .i64 n]) :: (b5, B 45 [.int .i64 k, .int .i64 b]) :: (bf, B 74 [c0, c1, c2, c3, c4, .int .i64 t.sp, c6, c7, c8, .map (some bm)]) :: (bm, o) :: (S ++ R)) (fun _ _ => .there (.there (.there .here))) (fun _ => Rd.own (.there (.there .here)) rfl) (fun _ => il_one .here) hpm) rfl rfl rfl ?_
            rintro _ _ ⟨rfl, es1, clk1, rfl, hpm1⟩
            refine w_nil ?_
            refine tq_n ?_
            refine d_begin_s ((show List.Sublist [(b5, _), (bf, _)] _ from (by first | exact SubL.out | repeat (first | exact .refl _ | exact List.nil_sublist _ | refine .cons_cons _ ?_ | refine .cons _ ?_ | refine .append (.refl _) ?_ | exact List.sublist_append_left _ _ | refine .trans ?_ (List.sublist_append_right _ _))))) [13] mixed ?_
            refine d_tk0 0 (np_blk (np_then np_ret)) rfl (by kernel_rfl) (by kernel_rfl) (by kernel_rfl) (by kernel_rfl) (.inl (by first | exact SubL.out | repeat (first | exact .refl _ | exact List.nil_sublist _ | refine .cons_cons _ ?_ | refine .cons _ ?_ | refine .append (.refl _) ?_ | exact List.sublist_append_left _ _ | refine .trans ?_ (List.sublist_append_right _ _)))) ?_
            refine w_mov rfl (by (conv => lhs; whnf) <;> rfl) ?_
            refine w_nil ⟨rfl, rfl, ?_⟩
            refine d_tk0 1 (np_blk (np_then np_ret)) rfl (by kernel_rfl) (by kernel_rfl) (by kernel_rfl) (by kernel_rfl) (.inl (by first | exact SubL.out | repeat (first | exact .refl _ | exact List.nil_sublist _ | refine .cons_cons _ ?_ | refine .cons _ ?_ | refine .append (.refl _) ?_ | exact List.sublist_append_left _ _ | refine .trans ?_ (List.sublist_append_right _ _)))) ?_
            refine w_mov rfl (by (conv => lhs; whnf) <;> rfl) ?_
            refine w_nil ⟨rfl, rfl, ?_⟩
            refine d_tk0 2 (np_blk (np_then np_ret)) rfl (by kernel_rfl) (by kernel_rfl) (by kernel_rfl) (by kernel_rfl) (.inl (by first | exact SubL.out | repeat (first | exact .refl _ | exact List.nil_sublist _ | refine .cons_cons _ ?_ | refine .cons _ ?_ | refine .append (.refl _) ?_ | exact List.sublist_append_left _ _ | refine .trans ?_ (List.sublist_append_right _ _)))) ?_
            refine w_nilck rfl (by (conv => lhs; whnf) <;> rfl) ?_
            refine w_nil ⟨rfl, rfl, ?_⟩
            refine d_tk0 3 (np_blk (np_then np_ret)) rfl (by kernel_rfl) (by kernel_rfl) (by kernel_rfl) (by kernel_rfl) (.inl (by first | exact SubL.out | repeat (first | exact .refl _ | exact List.nil_sublist _ | refine .cons_cons _ ?_ | refine .cons _ ?_ | refine .append (.refl _) ?_ | exact List.sublist_append_left _ _ | refine .trans ?_ (List.sublist_append_right _ _)))) ?_
            refine x_fa rfl (by (conv => lhs; whnf) <;> rfl) ?_
            refine w_nil ⟨rfl, rfl, ?_⟩
            refine d_tk 4 (np_blk (np_then np_ret)) rfl (by kernel_rfl) (by kernel_rfl) (by kernel_rfl) (by kernel_rfl) (by kernel_rfl) (by first | exact SubL.out | repeat (first | exact .refl _ | exact List.nil_sublist _ | refine .cons_cons _ ?_ | refine .cons _ ?_ | refine .append (.refl _) ?_ | exact List.sublist_append_left _ _ | refine .trans ?_ (List.sublist_append_right _ _))) ?_
            refine x_ldao rfl (by (conv => lhs; whnf) <;> rfl) (by first | exact HasC.out | exact PutC.out) rfl ?_
            refine w_nil ⟨rfl, rfl, ?_⟩
            refine d_tk 5 (np_blk (np_then np_ret)) rfl (by kernel_rfl) (by kernel_rfl) (by kernel_rfl) (by kernel_rfl) (by kernel_rfl) (by first | exact SubL.out | repeat (first | exact .refl _ | exact List.nil_sublist _ | refine .cons_cons _ ?_ | refine .cons _ ?_ | refine .append (.refl _) ?_ | exact List.sublist_append_left _ _ | refine .trans ?_ (List.sublist_append_right _ _))) ?_
            refine x_ldao rfl (by (conv => lhs; whnf) <;> rfl) (by first | exact HasC.out | exact PutC.out) rfl ?_
            refine w_nil ⟨rfl, rfl, ?_⟩
            refine d_tk0 6 (np_blk (np_then np_ret)) rfl (by kernel_rfl) (by kernel_rfl) (by kernel_rfl) (by kernel_rfl) (.inl (by first | exact SubL.out | repeat (first | exact .refl _ | exact List.nil_sublist _ | refine .cons_cons _ ?_ | refine .cons _ ?_ | refine .append (.refl _) ?_ | exact List.sublist_append_left _ _ | refine .trans ?_ (List.sublist_append_right _ _)))) ?_
            refine w_mov rfl (by (conv => lhs; whnf) <;> rfl) ?_
            refine w_nil ⟨rfl, rfl, ?_⟩
            refine d_one 7 rfl (by kernel_rfl) ?_
            refine x_call (open_g (hT.use (by first | exact SubL.out | repeat (first | exact .refl _ | exact List.nil_sublist _ | refine .cons_cons _ ?_ | refine .cons _ ?_ | refine .append (.refl _) ?_ | exact List.sublist_append_left _ _ | refine .trans ?_ (List.sublist_append_right _ _))))) rfl rfl rfl ?_
            rintro _ _ ⟨S20, rfl, hQ⟩
            rw [hot] at hQ
            obtain ⟨tv, rfl, hO⟩ := hQ
            obtain ⟨p0, p1, p2, p3, p4, p5, p6, p7, p8, rfl, hpo⟩ := tabO_cells hO
            refine w_nil ⟨rfl, (.inl (by first | exact SubL.out | repeat (first | exact .refl _ | exact List.nil_sublist _ | refine .cons_cons _ ?_ | refine .cons _ ?_ | refine .append (.refl _) ?_ | exact List.sublist_append_left _ _ | refine .trans ?_ (List.sublist_append_right _ _)))), ?_⟩
            refine d_tk0 8 (np_blk (np_then np_ret)) rfl (by kernel_rfl) (by kernel_rfl) (by kernel_rfl) (by kernel_rfl) (.inl (by first | exact SubL.out | repeat (first | exact .refl _ | exact List.nil_sublist _ | refine .cons_cons _ ?_ | refine .cons _ ?_ | refine .append (.refl _) ?_ | exact List.sublist_append_left _ _ | refine .trans ?_ (List.sublist_append_right _ _)))) ?_
            refine w_mov rfl (by (conv => lhs; whnf) <;> rfl) ?_
            refine w_nil ⟨rfl, rfl, ?_⟩
            refine d_tk0 9 (np_blk (np_then np_ret)) rfl (by kernel_rfl) (by kernel_rfl) (by kernel_rfl) (by kernel_rfl) (.inl (by first | exact SubL.out | repeat (first | exact .refl _ | exact List.nil_sublist _ | refine .cons_cons _ ?_ | refine .cons _ ?_ | refine .append (.refl _) ?_ | exact List.sublist_append_left _ _ | refine .trans ?_ (List.sublist_append_right _ _)))) ?_
            refine w_ext rfl (by (conv => lhs; whnf) <;> rfl) (by (conv => lhs; whnf) <;> rfl) ?_
            refine w_nil ⟨rfl, rfl, ?_⟩
            refine d_tk0 10 (np_blk (np_then np_ret)) rfl (by kernel_rfl) (by kernel_rfl) (by kernel_rfl) (by kernel_rfl) (.inl (by first | exact SubL.out | repeat (first | exact .refl _ | exact List.nil_sublist _ | refine .cons_cons _ ?_ | refine .cons _ ?_ | refine .append (.refl _) ?_ | exact List.sublist_append_left _ _ | refine .trans ?_ (List.sublist_append_right _ _)))) ?_
            refine w_ext rfl (by (conv => lhs; whnf) <;> rfl) (by (conv => lhs; whnf) <;> rfl) ?_
            refine w_nil ⟨rfl, rfl, ?_⟩
            refine d_tk0 11 (np_blk (np_then np_ret)) rfl (by kernel_rfl) (by kernel_rfl) (by kernel_rfl) (by kernel_rfl) (.inl (by first | exact SubL.out | repeat (first | exact .refl _ | exact List.nil_sublist _ | refine .cons_cons _ ?_ | refine .cons _ ?_ | refine .append (.refl _) ?_ | exact List.sublist_append_left _ _ | refine .trans ?_ (List.sublist_append_right _ _)))) ?_
            refine w_nilck rfl (by (conv => lhs; whnf) <;> rfl) ?_
            refine w_nil ⟨rfl, rfl, ?_⟩
            refine d_tk0 12 (np_blk (np_then np_ret)) rfl (by kernel_rfl) (by kernel_rfl) (by kernel_rfl) (by kernel_rfl) (.inl (by first | exact SubL.out | repeat (first | exact .refl _ | exact List.nil_sublist _ | refine .cons_cons _ ?_ | refine .cons _ ?_ | refine .append (.refl _) ?_ | exact List.sublist_append_left _ _ | refine .trans ?_ (List.sublist_append_right _ _)))) ?_
            refine x_fa rfl (by (conv => lhs; whnf) <;> rfl) ?_
            refine w_nil ⟨rfl, rfl, ?_⟩
            refine d_one 13 rfl (by kernel_rfl) ?_
            refine x_stp rfl (by (conv => lhs; whnf) <;> rfl) (by (conv => lhs; whnf) <;> rfl) (rfl) (hpo) (by first | exact HasC.out | exact PutC.out) rfl ?_
            refine w_nil ⟨rfl, (.inr (by kernel_rfl)), ?_⟩
            refine d_tk0 14 (np_blk (np_then np_ret)) rfl (by kernel_rfl) (by kernel_rfl) (by kernel_rfl) (by kernel_rfl) (.inr (by kernel_rfl)) ?_
            refine w_asg rfl (by (conv => lhs; whnf) <;> rfl) ?_
            refine w_nil ⟨rfl, rfl, ?_⟩
            refine d_done (by kernel_rfl) ?_
            have hgl : FL S20 (.slice none 0 0) [] := fl_nil
            have hmg : Mrg t φ k b t' (erL φ [n]) [] := .opn hc63 hn hot
            refine bq_n ?_
            refine tq_n ?_
            exact ⟨(by first | ((repeat (first | with_reducible exact Ag.refl | with_reducible exact Ag.ov | (with_reducible refine Ag.upd ?_ ?_; exact rfl) | with_reducible refine Ag.putn ?_ | (with_reducible refine Ag.ovs ?_ ?_; exact rfl))); done) | (repeat (first | exact Ag.refl | exact Ag.ov | (refine Ag.upd ?_ ?_; exact rfl) | refine Ag.putn ?_ | (refine Ag.ovs ?_ ?_; exact rfl)))), [(11, _), (12, _)], _, (by first | (refine ⟨_, pm2 bf bm (S := S20), ?_⟩; ((first | exact SubL.out | repeat (first | exact .refl _ | exact List.nil_sublist _ | refine .cons_cons _ ?_ | refine .cons _ ?_ | refine .append (.refl _) ?_ | exact List.sublist_append_left _ _ | refine .trans ?_ (List.sublist_append_right _ _)))); done) | (refine ⟨_, pm2 bf bm (S := S33), ?_⟩; ((first | exact SubL.out | repeat (first | exact .refl _ | exact List.nil_sublist _ | refine .cons_cons _ ?_ | refine .cons _ ?_ | refine .append (.refl _) ?_ | exact List.sublist_append_left _ _ | refine .trans ?_ (List.sublist_append_right _ _)))); done) | (refine ⟨_, pm3 bf bm b34 (S := S29), ?_⟩; ((first | exact SubL.out | repeat (first | exact .refl _ | exact List.nil_sublist _ | refine .cons_cons _ ?_ | refine .cons _ ?_ | refine .append (.refl _) ?_ | exact List.sublist_append_left _ _ | refine .trans ?_ (List.sublist_append_right _ _)))); done)), (by repeat (first | exact .nil | refine .cons rfl ?_)), ⟨_, _, _, _, _, _, _, _, _, _, _, _, _, _, _, _, rfl, hpo, by first | exact hO2 | exact hO, hgl, hmg, hpm1, rfl⟩⟩
          · refine c_mid_ov [84, 83, 85] (fun s L => s = [(83, .bool (decide (k = 6 ∨ k = 5)))] ∧ L = (b5, B 45 [.int .i64 k, .int .i64 b]) :: (bf, B 74 [c0, c1, c2, c3, c4, .int .i64 t.sp, c6, c7, c8, .map (some bm)]) :: (bm, .map es clk) :: (S ++ R)) ?_ ?_
            · refine c_seq ?_
              refine c_region ?_
              refine w_eql rfl (by (conv => lhs; whnf) <;> rfl) (by (conv => lhs; whnf) <;> rfl) ?_
              refine w_asg rfl (by (conv => lhs; whnf) <;> rfl) ?_
              refine w_nil ?_
              refine tq_n ?_
              refine c_cond_d (by (conv => lhs; whnf) <;> rfl) (fun hc83 => ?_) (fun hc83 => ?_)
              · refine c_skip ?_
                refine tq_n ?_
                exact ⟨(by first | ((repeat (first | with_reducible exact Ag.refl | with_reducible exact Ag.ov | (with_reducible refine Ag.upd ?_ ?_; exact rfl) | with_reducible refine Ag.putn ?_ | (with_reducible refine Ag.ovs ?_ ?_; exact rfl))); done) | (repeat (first | exact Ag.refl | exact Ag.ov | (refine Ag.upd ?_ ?_; exact rfl) | refine Ag.putn ?_ | (refine Ag.ovs ?_ ?_; exact rfl)))), [(83, _)], _, (by first | exact SubL.out | repeat (first | exact .refl _ | exact List.nil_sublist _ | refine .cons_cons _ ?_ | refine .cons _ ?_ | refine .append (.refl _) ?_ | exact List.sublist_append_left _ _ | refine .trans ?_ (List.sublist_append_right _ _))), (by repeat (first | exact .nil | refine .cons rfl ?_)), ⟨congrArg (fun x => [(83, Value.bool x)]) (decide_eq_decide.2 (by omega)), rfl⟩⟩
              · refine c_region ?_
                refine w_eql rfl (by (conv => lhs; whnf) <;> rfl) (by (conv => lhs; whnf) <;> rfl) ?_
                refine w_asg rfl (by (conv => lhs; whnf) <;> rfl) ?_
                refine w_nil ?_
                refine tq_n ?_
                exact ⟨(by first | ((repeat (first | with_reducible exact Ag.refl | with_reducible exact Ag.ov | (with_reducible refine Ag.upd ?_ ?_; exact rfl) | with_reducible refine Ag.putn ?_ | (with_reducible refine Ag.ovs ?_ ?_; exact rfl))); done) | (repeat (first | exact Ag.refl | exact Ag.ov | (refine Ag.upd ?_ ?_; exact rfl) | refine Ag.putn ?_ | (refine Ag.ovs ?_ ?_; exact rfl)))), [(83, _)], _, (by first | exact SubL.out | repeat (first | exact .refl _ | exact List.nil_sublist _ | refine .cons_cons _ ?_ | refine .cons _ ?_ | refine .append (.refl _) ?_ | exact List.sublist_append_left _ _ | refine .trans ?_ (List.sublist_append_right _ _))), (by repeat (first | exact .nil | refine .cons rfl ?_)), ⟨congrArg (fun x => [(83, Value.bool x)]) (decide_eq_decide.2 (by omega)), rfl⟩⟩
            · rintro sM LM gM ⟨rfl, rfl⟩
              refine c_cond_d (by (conv => lhs; whnf) <;> rfl) (fun hc83 => ?_) (fun hc83 => ?_)
              · refine c_seq ?_
                obtain ⟨t', gl, hot⟩ := hC.sw hc83
                refine d_begin_s ((show List.Sublist [(bf, _)] _ from (by first | exact SubL.out | repeat (first | exact .refl _ | exact List.nil_sublist _ | refine .cons_cons _ ?_ | refine .cons _ ?_ | refine .append (.refl _) ?_ | exact List.sublist_append_left _ _ | refine .trans ?_ (List.sublist_append_right _ _))))) [] mixed ?_
                refine d_tk0 0 (np_then (np_blk (np_then np_ret))) rfl (by kernel_rfl) (by kernel_rfl) (by kernel_rfl) (by kernel_rfl) (.inl (by first | exact SubL.out | repeat (first | exact .refl _ | exact List.nil_sublist _ | refine .cons_cons _ ?_ | refine .cons _ ?_ | refine .append (.refl _) ?_ | exact List.sublist_append_left _ _ | refine .trans ?_ (List.sublist_append_right _ _)))) ?_
                refine w_mov rfl (by (conv => lhs; whnf) <;> rfl) ?_
                refine w_nil ⟨rfl, rfl, ?_⟩
                refine d_tk0 1 (np_then (np_blk (np_then np_ret))) rfl (by kernel_rfl) (by kernel_rfl) (by kernel_rfl) (by kernel_rfl) (.inl (by first | exact SubL.out | repeat (first | exact .refl _ | exact List.nil_sublist _ | refine .cons_cons _ ?_ | refine .cons _ ?_ | refine .append (.refl _) ?_ | exact List.sublist_append_left _ _ | refine .trans ?_ (List.sublist_append_right _ _)))) ?_
                refine w_mov rfl (by (conv => lhs; whnf) <;> rfl) ?_
                refine w_nil ⟨rfl, rfl, ?_⟩
                refine d_tk0 2 (np_then (np_blk (np_then np_ret))) rfl (by kernel_rfl) (by kernel_rfl) (by kernel_rfl) (by kernel_rfl) (.inl (by first | exact SubL.out | repeat (first | exact .refl _ | exact List.nil_sublist _ | refine .cons_cons _ ?_ | refine .cons _ ?_ | refine .append (.refl _) ?_ | exact List.sublist_append_left _ _ | refine .trans ?_ (List.sublist_append_right _ _)))) ?_
                refine w_nilck rfl (by (conv => lhs; whnf) <;> rfl) ?_
                refine w_nil ⟨rfl, rfl, ?_⟩
                refine d_tk0 3 (np_then (np_blk (np_then np_ret))) rfl (by kernel_rfl) (by kernel_rfl) (by kernel_rfl) (by kernel_rfl) (.inl (by first | exact SubL.out | repeat (first | exact .refl _ | exact List.nil_sublist _ | refine .cons_cons _ ?_ | refine .cons _ ?_ | refine .append (.refl _) ?_ | exact List.sublist_append_left _ _ | refine .trans ?_ (List.sublist_append_right _ _)))) ?_
                refine x_fa rfl (by (conv => lhs; whnf) <;> rfl) ?_
                refine w_nil ⟨rfl, rfl, ?_⟩
                refine d_tk 4 (np_then (np_blk (np_then np_ret))) rfl (by kernel_rfl) (by kernel_rfl) (by kernel_rfl) (by kernel_rfl) (by kernel_rfl) (by first | exact SubL.out | repeat (first | exact .refl _ | exact List.nil_sublist _ | refine .cons_cons _ ?_ | refine .cons _ ?_ | refine .append (.refl _) ?_ | exact List.sublist_append_left _ _ | refine .trans ?_ (List.sublist_append_right _ _))) ?_
                refine x_ldao rfl (by (conv => lhs; whnf) <;> rfl) (by first | exact HasC.out | exact PutC.out) rfl ?_
                refine w_nil ⟨rfl, rfl, ?_⟩
                refine d_tk0 6 (np_then (np_blk (np_then np_ret))) rfl (by kernel_rfl) (by kernel_rfl) (by kernel_rfl) (by kernel_rfl) (.inl (by first | exact SubL.out | repeat (first | exact .refl _ | exact List.nil_sublist _ | refine .cons_cons _ ?_ | refine .cons _ ?_ | refine .append (.refl _) ?_ | exact List.sublist_append_left _ _ | refine .trans ?_ (List.sublist_append_right _ _)))) ?_
                refine w_mov rfl (by (conv => lhs; whnf) <;> rfl) ?_
                refine w_nil ⟨rfl, rfl, ?_⟩
                refine d_tk0 7 (np_then (np_blk (np_then np_ret))) rfl (by kernel_rfl) (by kernel_rfl) (by kernel_rfl) (by kernel_rfl) (.inl (by first | exact SubL.out | repeat (first | exact .refl _ | exact List.nil_sublist _ | refine .cons_cons _ ?_ | refine .cons _ ?_ | refine .append (.refl _) ?_ | exact List.sublist_append_left _ _ | refine .trans ?_ (List.sublist_append_right _ _)))) ?_
                refine w_nilck rfl (by (conv => lhs; whnf) <;> rfl) ?_
                refine w_nil ⟨rfl, rfl, ?_⟩
                refine d_tk0 8 (np_then (np_blk (np_then np_ret))) rfl (by kernel_rfl) (by kernel_rfl) (by kernel_rfl) (by kernel_rfl) (.inl (by first | exact SubL.out | repeat (first | exact .refl _ | exact List.nil_sublist _ | refine .cons_cons _ ?_ | refine .cons _ ?_ | refine .append (.refl _) ?_ | exact List.sublist_append_left _ _ | refine .trans ?_ (List.sublist_append_right _ _)))) ?_
                refine x_fa rfl (by (conv => lhs; whnf) <;> rfl) ?_
                refine w_nil ⟨rfl, rfl, ?_⟩
                refine d_tk0 9 (np_then (np_blk (np_then np_ret))) rfl (by kernel_rfl) (by kernel_rfl) (by kernel_rfl) (by kernel_rfl) (.inl (by first | exact SubL.out | repeat (first | exact .refl _ | exact List.nil_sublist _ | refine .cons_cons _ ?_ | refine .cons _ ?_ | refine .append (.refl _) ?_ | exact List.sublist_append_left _ _ | refine .trans ?_ (List.sublist_append_right _ _)))) ?_
                refine x_fa rfl (by (conv => lhs; whnf) <;> rfl) ?_
                refine w_nil ⟨rfl, rfl, ?_⟩
                refine d_tk0 10 (np_then (np_blk (np_then np_ret))) rfl (by kernel_rfl) (by kernel_rfl) (by kernel_rfl) (by kernel_rfl) (.inl (by first | exact SubL.out | repeat (first | exact .refl _ | exact List.nil_sublist _ | refine .cons_cons _ ?_ | refine .cons _ ?_ | refine .append (.refl _) ?_ | exact List.sublist_append_left _ _ | refine .trans ?_ (List.sublist_append_right _ _)))) ?_
                refine x_fa rfl (by (conv => lhs; whnf) <;> rfl) ?_
                refine w_nil ⟨rfl, rfl, ?_⟩
                refine d_tk 11 (np_then (np_blk (np_then np_ret))) rfl (by kernel_rfl) (by kernel_rfl) (by kernel_rfl) (by kernel_rfl) (by kernel_rfl) (by first | exact SubL.out | repeat (first | exact .refl _ | exact List.nil_sublist _ | refine .cons_cons _ ?_ | refine .cons _ ?_ | refine .append (.refl _) ?_ | exact List.sublist_append_left _ _ | refine .trans ?_ (List.sublist_append_right _ _))) ?_
                refine x_ldo rfl (by (conv => lhs; whnf) <;> rfl) (by first | exact HasC.out | exact PutC.out) (by (conv => lhs; whnf) <;> rfl) ?_
                refine w_nil ⟨rfl, rfl, ?_⟩
                refine d_one 5 rfl (by kernel_rfl) ?_
                refine x_call (lrest_g (hT.use (by first | exact SubL.out | repeat (first | exact .refl _ | exact List.nil_sublist _ | refine .cons_cons _ ?_ | refine .cons _ ?_ | refine .append (.refl _) ?_ | exact List.sublist_append_left _ _ | refine .trans ?_ (List.sublist_append_right _ _))))) rfl rfl rfl ?_
                rintro _ _ ⟨S39, rfl, hS39⟩
                rw [mayT_of hm] at hS39
                obtain ⟨A39, cap39, rfl, _⟩ := hS39.form
                refine w_nil ⟨rfl, (.inl (by first | exact SubL.out | repeat (first | exact .refl _ | exact List.nil_sublist _ | refine .cons_cons _ ?_ | refine .cons _ ?_ | refine .append (.refl _) ?_ | exact List.sublist_append_left _ _ | refine .trans ?_ (List.sublist_append_right _ _)))), ?_⟩
                refine d_one 12 rfl (by kernel_rfl) ?_
                refine x_call (fcopies_g (Lf := fun o => S39 ++ ((b5, B 45 [.int .i64 k, .int .i64 b]) :: (bf, B 74 [c0, c1, c2, c3, c4, .int .i64 t.sp, c6, c7, c8, .map (some bm)]) :: (bm, o) :: (S ++ R))) (fun _ _ => .app (.there (.there .here))) (fun _ => Rd.own (.app (.there .here)) rfl) (fun _ => cl_ofX hS39 hlR (List.sublist_append_left _ _)) hpm) rfl rfl rfl ?_
                rintro _ _ ⟨rfl, es1, clk1, rfl, hpm1⟩
                refine w_nil ⟨rfl, (.inl (by first | exact SubL.out | repeat (first | exact .refl _ | exact List.nil_sublist _ | refine .cons_cons _ ?_ | refine .cons _ ?_ | refine .append (.refl _) ?_ | exact List.sublist_append_left _ _ | refine .trans ?_ (List.sublist_append_right _ _)))), ?_⟩
                refine d_done (by kernel_rfl) ?_
                refine tq_n ?_
                refine c_region ?_
                refine w_mov rfl (by (conv => lhs; whnf) <;> rfl) ?_
                refine w_mov rfl (by (conv => lhs; whnf) <;> rfl) ?_
                refine w_nilck rfl (by (conv => lhs; whnf) <;> rfl) ?_
                refine x_fa rfl (by (conv => lhs; whnf) <;> rfl) ?_
                refine x_ldao rfl (by (conv => lhs; whnf) <;> rfl) (by first | exact HasC.out | exact PutC.out) rfl ?_
                refine x_call (switched_g (hT.use (by first | exact SubL.out | repeat (first | exact .refl _ | exact List.nil_sublist _ | refine .cons_cons _ ?_ | refine .cons _ ?_ | refine .append (.refl _) ?_ | exact List.sublist_append_left _ _ | refine .trans ?_ (List.sublist_append_right _ _))))) rfl rfl rfl ?_
                rintro _ _ ⟨S33, rfl, hG⟩
                rw [hot] at hG
                obtain ⟨tv, lv, rfl, hlo1, hO, hgl⟩ := hG
                obtain ⟨p0, p1, p2, p3, p4, p5, p6, p7, p8, rfl, hpo⟩ := tabO_cells hO
                refine w_mov rfl (by (conv => lhs; whnf) <;> rfl) ?_
                refine w_ext rfl (by (conv => lhs; whnf) <;> rfl) (by (conv => lhs; whnf) <;> rfl) ?_
                refine w_ext rfl (by (conv => lhs; whnf) <;> rfl) (by (conv => lhs; whnf) <;> rfl) ?_
                refine w_ext rfl (by (conv => lhs; whnf) <;> rfl) (by (conv => lhs; whnf) <;> rfl) ?_
                refine w_nilck rfl (by (conv => lhs; whnf) <;> rfl) ?_
                refine x_fa rfl (by (conv => lhs; whnf) <;> rfl) ?_
                refine x_stp rfl (by (conv => lhs; whnf) <;> rfl) (by (conv => lhs; whnf) <;> rfl) (rfl) (hpo) (by first | exact HasC.out | exact PutC.out) rfl ?_
                refine w_asg rfl (by (conv => lhs; whnf) <;> rfl) ?_
                refine w_asg rfl (by (conv => lhs; whnf) <;> rfl) ?_
                refine w_nil ?_
                have hmg : Mrg t φ k b t' (cpF φ (restA t) t.sp) gl := .sw hc83 hot
                refine bq_n ?_
                refine tq_n ?_
                exact ⟨(by first | ((repeat (first | with_reducible exact Ag.refl | with_reducible exact Ag.ov | (with_reducible refine Ag.upd ?_ ?_; exact rfl) | with_reducible refine Ag.putn ?_ | (with_reducible refine Ag.ovs ?_ ?_; exact rfl))); done) | (repeat (first | exact Ag.refl | exact Ag.ov | (refine Ag.upd ?_ ?_; exact rfl) | refine Ag.putn ?_ | (refine Ag.ovs ?_ ?_; exact rfl)))), [(11, _), (12, _)], _, (by first | (refine ⟨_, pm2 bf bm (S := S20), ?_⟩; ((first | exact SubL.out | repeat (first | exact .refl _ | exact List.nil_sublist _ | refine .cons_cons _ ?_ | refine .cons _ ?_ | refine .append (.refl _) ?_ | exact List.sublist_append_left _ _ | refine .trans ?_ (List.sublist_append_right _ _)))); done) | (refine ⟨_, pm2 bf bm (S := S33), ?_⟩; ((first | exact SubL.out | repeat (first | exact .refl _ | exact List.nil_sublist _ | refine .cons_cons _ ?_ | refine .cons _ ?_ | refine .append (.refl _) ?_ | exact List.sublist_append_left _ _ | refine .trans ?_ (List.sublist_append_right _ _)))); done) | (refine ⟨_, pm3 bf bm b34 (S := S29), ?_⟩; ((first | exact SubL.out | repeat (first | exact .refl _ | exact List.nil_sublist _ | refine .cons_cons _ ?_ | refine .cons _ ?_ | refine .append (.refl _) ?_ | exact List.sublist_append_left _ _ | refine .trans ?_ (List.sublist_append_right _ _)))); done)), (by repeat (first | exact .nil | refine .cons rfl ?_)), ⟨_, _, _, _, _, _, _, _, _, _, _, _, _, _, _, _, rfl, hpo, by first | exact hO2 | exact hO, hgl, hmg, hpm1, rfl⟩⟩
              · refine c_mid_ov [112, 111, 113] (fun s L => s = [(111, .bool (decide (k = 7 ∨ k = 8)))] ∧ L = (b5, B 45 [.int .i64 k, .int .i64 b]) :: (bf, B 74 [c0, c1, c2, c3, c4, .int .i64 t.sp, c6, c7, c8, .map (some bm)]) :: (bm, .map es clk) :: (S ++ R)) ?_ ?_
                · refine c_seq ?_
                  refine c_region ?_
                  refine w_eql rfl (by (conv => lhs; whnf) <;> rfl) (by (conv => lhs; whnf) <;> rfl) ?_
                  refine w_asg rfl (by (conv => lhs; whnf) <;> rfl) ?_
                  refine w_nil ?_
                  refine tq_n ?_
                  refine c_cond_d (by (conv => lhs; whnf) <;> rfl) (fun hc111 => ?_) (fun hc111 => ?_)
                  · refine c_skip ?_
                    refine tq_n ?_
                    exact ⟨(by first | ((repeat (first | with_reducible exact Ag.refl | with_reducible exact Ag.ov | (with_reducible refine Ag.upd ?_ ?_; exact rfl) | with_reducible refine Ag.putn ?_ | (with_reducible refine Ag.ovs ?_ ?_; exact rfl))); done) | (repeat (first | exact Ag.refl | exact Ag.ov | (refine Ag.upd ?_ ?_; exact rfl) | refine Ag.putn ?_ | (refine Ag.ovs ?_ ?_; exact rfl)))), [(111, _)], _, (by first | exact SubL.out | repeat (first | exact .refl _ | exact List.nil_sublist _ | refine .cons_cons _ ?_ | refine .cons _ ?_ | refine .append (.refl _) ?_ | exact List.sublist_append_left _ _ | refine .trans ?_ (List.sublist_append_right _ _))), (by repeat (first | exact .nil | refine .cons rfl ?_)), ⟨congrArg (fun x => [(111, Value.bool x)]) (decide_eq_decide.2 (by omega)), rfl⟩⟩
                  · refine c_region ?_
                    refine w_eql rfl (by (conv => lhs; whnf) <;> rfl) (by (conv => lhs; whnf) <;> rfl) ?_
                    refine w_asg rfl (by (conv => lhs; whnf) <;> rfl) ?_
                    refine w_nil ?_
                    refine tq_n ?_
                    exact ⟨(by first | ((repeat (first | with_reducible exact Ag.refl | with_reducible exact Ag.ov | (with_reducible refine Ag.upd ?_ ?_; exact rfl) | with_reducible refine Ag.putn ?_ | (with_reducible refine Ag.ovs ?_ ?_; exact rfl))); done) | (repeat (first | exact Ag.refl | exact Ag.ov | (refine Ag.upd ?_ ?_; exact rfl) | refine Ag.putn ?_ | (refine Ag.ovs ?_ ?_; exact rfl)))), [(111, _)], _, (by first | exact SubL.out | repeat (first | exact .refl _ | exact List.nil_sublist _ | refine .cons_cons _ ?_ | refine .cons _ ?_ | refine .append (.refl _) ?_ | exact List.sublist_append_left _ _ | refine .trans ?_ (List.sublist_append_right _ _))), (by repeat (first | exact .nil | refine .cons rfl ?_)), ⟨congrArg (fun x => [(111, Value.bool x)]) (decide_eq_decide.2 (by omega)), rfl⟩⟩
                · rintro sM LM gM ⟨rfl, rfl⟩
                  refine c_cond_d (by (conv => lhs; whnf) <;> rfl) (fun hc111 => ?_) (fun hc111 => ?_)
                  · refine c_seq ?_
                    obtain ⟨t', gl, hot⟩ := hC.fd hc111 n hn
                    refine d_begin_s ((show List.Sublist [(b5, _), (bf, _)] _ from (by first | exact SubL.out | repeat (first | exact .refl _ | exact List.nil_sublist _ | refine .cons_cons _ ?_ | refine .cons _ ?_ | refine .append (.refl _) ?_ | exact List.sublist_append_left _ _ | refine .trans ?_ (List.sublist_append_right _ _))))) [] mixed ?_
                    refine d_tk0 0 (np_then (np_blk (np_then np_ret))) rfl (by kernel_rfl) (by kernel_rfl) (by kernel_rfl) (by kernel_rfl) (.inl (by first | exact SubL.out | repeat (first | exact .refl _ | exact List.nil_sublist _ | refine .cons_cons _ ?_ | refine .cons _ ?_ | refine .append (.refl _) ?_ | exact List.sublist_append_left _ _ | refine .trans ?_ (List.sublist_append_right _ _)))) ?_
                    refine w_mov rfl (by (conv => lhs; whnf) <;> rfl) ?_
                    refine w_nil ⟨rfl, rfl, ?_⟩
                    refine d_tk0 1 (np_then (np_blk (np_then np_ret))) rfl (by kernel_rfl) (by kernel_rfl) (by kernel_rfl) (by kernel_rfl) (.inl (by first | exact SubL.out | repeat (first | exact .refl _ | exact List.nil_sublist _ | refine .cons_cons _ ?_ | refine .cons _ ?_ | refine .append (.refl _) ?_ | exact List.sublist_append_left _ _ | refine .trans ?_ (List.sublist_append_right _ _)))) ?_
                    refine w_mov rfl (by (conv => lhs; whnf) <;> rfl) ?_
                    refine w_nil ⟨rfl, rfl, ?_⟩
                    refine d_tk0 2 (np_then (np_blk (np_then np_ret))) rfl (by kernel_rfl) (by kernel_rfl) (by kernel_rfl) (by kernel_rfl) (.inl (by first | exact SubL.out | repeat (first | exact .refl _ | exact List.nil_sublist _ | refine .cons_cons _ ?_ | refine .cons _ ?_ | refine .append (.refl _) ?_ | exact List.sublist_append_left _ _ | refine .trans ?_ (List.sublist_append_right _ _)))) ?_
                    refine w_nilck rfl (by (conv => lhs; whnf) <;> rfl) ?_
                    refine w_nil ⟨rfl, rfl, ?_⟩
                    refine d_tk0 3 (np_then (np_blk (np_then np_ret))) rfl (by kernel_rfl) (by kernel_rfl) (by kernel_rfl) (by kernel_rfl) (.inl (by first | exact SubL.out | repeat (first | exact .refl _ | exact List.nil_sublist _ | refine .cons_cons _ ?_ | refine .cons _ ?_ | refine .append (.refl _) ?_ | exact List.sublist_append_left _ _ | refine .trans ?_ (List.sublist_append_right _ _)))) ?_
                    refine x_fa rfl (by (conv => lhs; whnf) <;> rfl) ?_
                    refine w_nil ⟨rfl, rfl, ?_⟩
                    refine d_tk 4 (np_then (np_blk (np_then np_ret))) rfl (by kernel_rfl) (by kernel_rfl) (by kernel_rfl) (by kernel_rfl) (by kernel_rfl) (by first | exact SubL.out | repeat (first | exact .refl _ | exact List.nil_sublist _ | refine .cons_cons _ ?_ | refine .cons _ ?_ | refine .append (.refl _) ?_ | exact List.sublist_append_left _ _ | refine .trans ?_ (List.sublist_append_right _ _))) ?_
                    refine x_ldao rfl (by (conv => lhs; whnf) <;> rfl) (by first | exact HasC.out | exact PutC.out) rfl ?_
                    refine w_nil ⟨rfl, rfl, ?_⟩
                    refine d_tk0 5 (np_then (np_blk (np_then np_ret))) rfl (by kernel_rfl) (by kernel_rfl) (by kernel_rfl) (by kernel_rfl) (.inl (by first | exact SubL.out | repeat (first | exact .refl _ | exact List.nil_sublist _ | refine .cons_cons _ ?_ | refine .cons _ ?_ | refine .append (.refl _) ?_ | exact List.sublist_append_left _ _ | refine .trans ?_ (List.sublist_append_right _ _)))) ?_
                    refine x_fa rfl (by (conv => lhs; whnf) <;> rfl) ?_
                    refine w_nil ⟨rfl, rfl, ?_⟩
                    refine d_tk 6 (np_then (np_blk (np_then np_ret))) rfl (by kernel_rfl) (by kernel_rfl) (by kernel_rfl) (by kernel_rfl) (by kernel_rfl) (by first | exact SubL.out | repeat (first | exact .refl _ | exact List.nil_sublist _ | refine .cons_cons _ ?_ | refine .cons _ ?_ | refine .append (.refl _) ?_ | exact List.sublist_append_left _ _ | refine .trans ?_ (List.sublist_append_right _ _))) ?_
                    refine x_ldo rfl (by (conv => lhs; whnf) <;> rfl) (by first | exact HasC.out | exact PutC.out) (by (conv => lhs; whnf) <;> rfl) ?_
                    refine w_nil ⟨rfl, rfl, ?_⟩
                    refine d_tk0 8 (np_then (np_blk (np_then np_ret))) rfl (by kernel_rfl) (by kernel_rfl) (by kernel_rfl) (by kernel_rfl) (.inl (by first | exact SubL.out | repeat (first | exact .refl _ | exact List.nil_sublist _ | refine .cons_cons _ ?_ | refine .cons _ ?_ | refine .append (.refl _) ?_ | exact List.sublist_append_left _ _ | refine .trans ?_ (List.sublist_append_right _ _)))) ?_
                    refine w_mov rfl (by (conv => lhs; whnf) <;> rfl) ?_
                    refine w_nil ⟨rfl, rfl, ?_⟩
                    refine d_one 7 rfl (by kernel_rfl) ?_
                    refine x_call (lfold_g (hT.use (by first | exact SubL.out | repeat (first | exact .refl _ | exact List.nil_sublist _ | refine .cons_cons _ ?_ | refine .cons _ ?_ | refine .append (.refl _) ?_ | exact List.sublist_append_left _ _ | refine .trans ?_ (List.sublist_append_right _ _))))) rfl rfl rfl ?_
                    rintro _ _ ⟨S39, rfl, hS39⟩
                    rw [mayT_of hm] at hS39
                    obtain ⟨A39, cap39, rfl, _⟩ := hS39.form
                    refine w_nil ⟨rfl, (.inl (by first | exact SubL.out | repeat (first | exact .refl _ | exact List.nil_sublist _ | refine .cons_cons _ ?_ | refine .cons _ ?_ | refine .append (.refl _) ?_ | exact List.sublist_append_left _ _ | refine .trans ?_ (List.sublist_append_right _ _)))), ?_⟩
                    refine d_one 9 rfl (by kernel_rfl) ?_
                    refine x_call (fcopies_g (Lf := fun o => S39 ++ ((b5, B 45 [.int .i64 k, .int .i64 b]) :: (bf, B 74 [c0, c1, c2, c3, c4, .int .i64 t.sp, c6, c7, c8, .map (some bm)]) :: (bm, o) :: (S ++ R))) (fun _ _ => .app (.there (.there .here))) (fun _ => Rd.own (.app (.there .here)) rfl) (fun _ => cl_ofX hS39 hlA (List.sublist_append_left _ _)) hpm) rfl rfl rfl ?_
                    rintro _ _ ⟨rfl, es1, clk1, rfl, hpm1⟩
                    refine w_nil ⟨rfl, (.inl (by first | exact SubL.out | repeat (first | exact .refl _ | exact List.nil_sublist _ | refine .cons_cons _ ?_ | refine .cons _ ?_ | refine .append (.refl _) ?_ | exact List.sublist_append_left _ _ | refine .trans ?_ (List.sublist_append_right _ _)))), ?_⟩
                    refine d_done (by kernel_rfl) ?_
                    refine tq_n ?_
                    refine d_begin_s ((show List.Sublist [(b5, _), (bf, _)] _ from (by first | exact SubL.out | repeat (first | exact .refl _ | exact List.nil_sublist _ | refine .cons_cons _ ?_ | refine .cons _ ?_ | refine .append (.refl _) ?_ | exact List.sublist_append_left _ _ | refine .trans ?_ (List.sublist_append_right _ _))))) [15] mixed ?_
                    refine d_tk0 0 (np_blk (np_then np_ret)) rfl (by kernel_rfl) (by kernel_rfl) (by kernel_rfl) (by kernel_rfl) (.inl (by first | exact SubL.out | repeat (first | exact .refl _ | exact List.nil_sublist _ | refine .cons_cons _ ?_ | refine .cons _ ?_ | refine .append (.refl _) ?_ | exact List.sublist_append_left _ _ | refine .trans ?_ (List.sublist_append_right _ _)))) ?_
                    refine w_mov rfl (by (conv => lhs; whnf) <;> rfl) ?_
                    refine w_nil ⟨rfl, rfl, ?_⟩
                    refine d_tk0 1 (np_blk (np_then np_ret)) rfl (by kernel_rfl) (by kernel_rfl) (by kernel_rfl) (by kernel_rfl) (.inl (by first | exact SubL.out | repeat (first | exact .refl _ | exact List.nil_sublist _ | refine .cons_cons _ ?_ | refine .cons _ ?_ | refine .append (.refl _) ?_ | exact List.sublist_append_left _ _ | refine .trans ?_ (List.sublist_append_right _ _)))) ?_
                    refine w_mov rfl (by (conv => lhs; whnf) <;> rfl) ?_
                    refine w_nil ⟨rfl, rfl, ?_⟩
                    refine d_tk0 2 (np_blk (np_then np_ret)) rfl (by kernel_rfl) (by kernel_rfl) (by kernel_rfl) (by kernel_rfl) (.inl (by first | exact SubL.out | repeat (first | exact .refl _ | exact List.nil_sublist _ | refine .cons_cons _ ?_ | refine .cons _ ?_ | refine .append (.refl _) ?_ | exact List.sublist_append_left _ _ | refine .trans ?_ (List.sublist_append_right _ _)))) ?_
                    refine w_nilck rfl (by (conv => lhs; whnf) <;> rfl) ?_
                    refine w_nil ⟨rfl, rfl, ?_⟩
                    refine d_tk0 3 (np_blk (np_then np_ret)) rfl (by kernel_rfl) (by kernel_rfl) (by kernel_rfl) (by kernel_rfl) (.inl (by first | exact SubL.out | repeat (first | exact .refl _ | exact List.nil_sublist _ | refine .cons_cons _ ?_ | refine .cons _ ?_ | refine .append (.refl _) ?_ | exact List.sublist_append_left _ _ | refine .trans ?_ (List.sublist_append_right _ _)))) ?_
                    refine x_fa rfl (by (conv => lhs; whnf) <;> rfl) ?_
                    refine w_nil ⟨rfl, rfl, ?_⟩
                    refine d_tk 4 (np_blk (np_then np_ret)) rfl (by kernel_rfl) (by kernel_rfl) (by kernel_rfl) (by kernel_rfl) (by kernel_rfl) (by first | exact SubL.out | repeat (first | exact .refl _ | exact List.nil_sublist _ | refine .cons_cons _ ?_ | refine .cons _ ?_ | refine .append (.refl _) ?_ | exact List.sublist_append_left _ _ | refine .trans ?_ (List.sublist_append_right _ _))) ?_
                    refine x_ldao rfl (by (conv => lhs; whnf) <;> rfl) (by first | exact HasC.out | exact PutC.out) rfl ?_
                    refine w_nil ⟨rfl, rfl, ?_⟩
                    refine d_tk0 5 (np_blk (np_then np_ret)) rfl (by kernel_rfl) (by kernel_rfl) (by kernel_rfl) (by kernel_rfl) (.inl (by first | exact SubL.out | repeat (first | exact .refl _ | exact List.nil_sublist _ | refine .cons_cons _ ?_ | refine .cons _ ?_ | refine .append (.refl _) ?_ | exact List.sublist_append_left _ _ | refine .trans ?_ (List.sublist_append_right _ _)))) ?_
                    refine x_fa rfl (by (conv => lhs; whnf) <;> rfl) ?_
                    refine w_nil ⟨rfl, rfl, ?_⟩
                    refine d_tk 6 (np_blk (np_then np_ret)) rfl (by kernel_rfl) (by kernel_rfl) (by kernel_rfl) (by kernel_rfl) (by kernel_rfl) (by first | exact SubL.out | repeat (first | exact .refl _ | exact List.nil_sublist _ | refine .cons_cons _ ?_ | refine .cons _ ?_ | refine .append (.refl _) ?_ | exact List.sublist_append_left _ _ | refine .trans ?_ (List.sublist_append_right _ _))) ?_
                    refine x_ldo rfl (by (conv => lhs; whnf) <;> rfl) (by first | exact HasC.out | exact PutC.out) (by (conv => lhs; whnf) <;> rfl) ?_
                    refine w_nil ⟨rfl, rfl, ?_⟩
                    refine d_tk0 7 (np_blk (np_then np_ret)) rfl (by kernel_rfl) (by kernel_rfl) (by kernel_rfl) (by kernel_rfl) (.inl (by first | exact SubL.out | repeat (first | exact .refl _ | exact List.nil_sublist _ | refine .cons_cons _ ?_ | refine .cons _ ?_ | refine .append (.refl _) ?_ | exact List.sublist_append_left _ _ | refine .trans ?_ (List.sublist_append_right _ _)))) ?_
                    refine w_mov rfl (by (conv => lhs; whnf) <;> rfl) ?_
                    refine w_nil ⟨rfl, rfl, ?_⟩
                    refine d_one 8 rfl (by kernel_rfl) ?_
                    refine x_call (folded_g (hT.use (by first | exact SubL.out | repeat (first | exact .refl _ | exact List.nil_sublist _ | refine .cons_cons _ ?_ | refine .cons _ ?_ | refine .append (.refl _) ?_ | exact List.sublist_append_left _ _ | refine .trans ?_ (List.sublist_append_right _ _)))) hb) rfl rfl rfl ?_
                    rintro _ _ ⟨S33, rfl, hG⟩
                    rw [hot] at hG
                    obtain ⟨tv, lv, rfl, hlo1, hO, hgl⟩ := hG
                    obtain ⟨p0, p1, p2, p3, p4, p5, p6, p7, p8, rfl, hpo⟩ := tabO_cells hO
                    refine w_nil ⟨rfl, (.inl (by first | exact SubL.out | repeat (first | exact .refl _ | exact List.nil_sublist _ | refine .cons_cons _ ?_ | refine .cons _ ?_ | refine .append (.refl _) ?_ | exact List.sublist_append_left _ _ | refine .trans ?_ (List.sublist_append_right _ _)))), ?_⟩
                    refine d_tk0 9 (np_blk (np_then np_ret)) rfl (by kernel_rfl) (by kernel_rfl) (by kernel_rfl) (by kernel_rfl) (.inl (by first | exact SubL.out | repeat (first | exact .refl _ | exact List.nil_sublist _ | refine .cons_cons _ ?_ | refine .cons _ ?_ | refine .append (.refl _) ?_ | exact List.sublist_append_left _ _ | refine .trans ?_ (List.sublist_append_right _ _)))) ?_
                    refine w_mov rfl (by (conv => lhs; whnf) <;> rfl) ?_
                    refine w_nil ⟨rfl, rfl, ?_⟩
                    refine d_tk0 10 (np_blk (np_then np_ret)) rfl (by kernel_rfl) (by kernel_rfl) (by kernel_rfl) (by kernel_rfl) (.inl (by first | exact SubL.out | repeat (first | exact .refl _ | exact List.nil_sublist _ | refine .cons_cons _ ?_ | refine .cons _ ?_ | refine .append (.refl _) ?_ | exact List.sublist_append_left _ _ | refine .trans ?_ (List.sublist_append_right _ _)))) ?_
                    refine w_ext rfl (by (conv => lhs; whnf) <;> rfl) (by (conv => lhs; whnf) <;> rfl) ?_
                    refine w_nil ⟨rfl, rfl, ?_⟩
                    refine d_tk0 11 (np_blk (np_then np_ret)) rfl (by kernel_rfl) (by kernel_rfl) (by kernel_rfl) (by kernel_rfl) (.inl (by first | exact SubL.out | repeat (first | exact .refl _ | exact List.nil_sublist _ | refine .cons_cons _ ?_ | refine .cons _ ?_ | refine .append (.refl _) ?_ | exact List.sublist_append_left _ _ | refine .trans ?_ (List.sublist_append_right _ _)))) ?_
                    refine w_ext rfl (by (conv => lhs; whnf) <;> rfl) (by (conv => lhs; whnf) <;> rfl) ?_
                    refine w_nil ⟨rfl, rfl, ?_⟩
                    refine d_tk0 12 (np_blk (np_then np_ret)) rfl (by kernel_rfl) (by kernel_rfl) (by kernel_rfl) (by kernel_rfl) (.inl (by first | exact SubL.out | repeat (first | exact .refl _ | exact List.nil_sublist _ | refine .cons_cons _ ?_ | refine .cons _ ?_ | refine .append (.refl _) ?_ | exact List.sublist_append_left _ _ | refine .trans ?_ (List.sublist_append_right _ _)))) ?_
                    refine w_ext rfl (by (conv => lhs; whnf) <;> rfl) (by (conv => lhs; whnf) <;> rfl) ?_
                    refine w_nil ⟨rfl, rfl, ?_⟩
                    refine d_tk0 13 (np_blk (np_then np_ret)) rfl (by kernel_rfl) (by kernel_rfl) (by kernel_rfl) (by kernel_rfl) (.inl (by first | exact SubL.out | repeat (first | exact .refl _ | exact List.nil_sublist _ | refine .cons_cons _ ?_ | refine .cons _ ?_ | refine .append (.refl _) ?_ | exact List.sublist_append_left _ _ | refine .trans ?_ (List.sublist_append_right _ _)))) ?_
                    refine w_nilck rfl (by (conv => lhs; whnf) <;> rfl) ?_
                    refine w_nil ⟨rfl, rfl, ?_⟩
                    refine d_tk0 14 (np_blk (np_then np_ret)) rfl (by kernel_rfl) (by kernel_rfl) (by kernel_rfl) (by kernel_rfl) (.inl (by first | exact SubL.out | repeat (first | exact .refl _ | exact List.nil_sublist _ | refine .cons_cons _ ?_ | refine .cons _ ?_ | refine .append (.refl _) ?_ | exact List.sublist_append_left _ _ | refine .trans ?_ (List.sublist_append_right _ _)))) ?_
                    refine x_fa rfl (by (conv => lhs; whnf) <;> rfl) ?_
                    refine w_nil ⟨rfl, rfl, ?_⟩
                    refine d_one 15 rfl (by kernel_rfl) ?_
                    refine x_stp rfl (by (conv => lhs; whnf) <;> rfl) (by (conv => lhs; whnf) <;> rfl) (rfl) (hpo) (by first | exact HasC.out | exact PutC.out) rfl ?_
                    refine w_nil ⟨rfl, (.inr (by kernel_rfl)), ?_⟩
                    refine d_tk0 16 (np_blk (np_then np_ret)) rfl (by kernel_rfl) (by kernel_rfl) (by kernel_rfl) (by kernel_rfl) (.inr (by kernel_rfl)) ?_
                    refine w_asg rfl (by (conv => lhs; whnf) <;> rfl) ?_
                    refine w_nil ⟨rfl, rfl, ?_⟩
                    refine d_tk0 17 (np_blk (np_then np_ret)) rfl (by kernel_rfl) (by kernel_rfl) (by kernel_rfl) (by kernel_rfl) (.inr (by kernel_rfl)) ?_
                    refine w_asg rfl (by (conv => lhs; whnf) <;> rfl) ?_
                    refine w_nil ⟨rfl, rfl, ?_⟩
                    refine d_done (by kernel_rfl) ?_
                    have hmg : Mrg t φ k b t' (cpF φ (foldA t b) n) gl := .fd hc111 hn hot
                    refine bq_n ?_
                    refine tq_n ?_
                    exact ⟨(by first | ((repeat (first | with_reducible exact Ag.refl | with_reducible exact Ag.ov | (with_reducible refine Ag.upd ?_ ?_; exact rfl) | with_reducible refine Ag.putn ?_ | (with_reducible refine Ag.ovs ?_ ?_; exact rfl))); done) | (repeat (first | exact Ag.refl | exact Ag.ov | (refine Ag.upd ?_ ?_; exact rfl) | refine Ag.putn ?_ | (refine Ag.ovs ?_ ?_; exact rfl)))), [(11, _), (12, _)], _, (by first | (refine ⟨_, pm2 bf bm (S := S20), ?_⟩; ((first | exact SubL.out | repeat (first | exact .refl _ | exact List.nil_sublist _ | refine .cons_cons _ ?_ | refine .cons _ ?_ | refine .append (.refl _) ?_ | exact List.sublist_append_left _ _ | refine .trans ?_ (List.sublist_append_right _ _)))); done) | (refine ⟨_, pm2 bf bm (S := S33), ?_⟩; ((first | exact SubL.out | repeat (first | exact .refl _ | exact List.nil_sublist _ | refine .cons_cons _ ?_ | refine .cons _ ?_ | refine .append (.refl _) ?_ | exact List.sublist_append_left _ _ | refine .trans ?_ (List.sublist_append_right _ _)))); done) | (refine ⟨_, pm3 bf bm b34 (S := S29), ?_⟩; ((first | exact SubL.out | repeat (first | exact .refl _ | exact List.nil_sublist _ | refine .cons_cons _ ?_ | refine .cons _ ?_ | refine .append (.refl _) ?_ | exact List.sublist_append_left _ _ | refine .trans ?_ (List.sublist_append_right _ _)))); done)), (by repeat (first | exact .nil | refine .cons rfl ?_)), ⟨_, _, _, _, _, _, _, _, _, _, _, _, _, _, _, _, rfl, hpo, by first | exact hO2 | exact hO, hgl, hmg, hpm1, rfl⟩⟩
                  · refine c_seq ?_
                    obtain ⟨t', gx, hot⟩ := hC.dr (by omega)
                    refine c_region ?_
                    refine w_asg rfl (by (conv => lhs; whnf) <;> rfl) ?_
                    refine w_nil ?_
                    refine tq_n ?_
                    refine c_seq ?_
                    refine c_region ?_
                    refine w_mov rfl (by (conv => lhs; whnf) <;> rfl) ?_
                    refine w_mov rfl (by (conv => lhs; whnf) <;> rfl) ?_
                    refine w_nilck rfl (by (conv => lhs; whnf) <;> rfl) ?_
                    refine x_fa rfl (by (conv => lhs; whnf) <;> rfl) ?_
                    refine x_ldao rfl (by (conv => lhs; whnf) <;> rfl) (by first | exact HasC.out | exact PutC.out) rfl ?_
                    refine x_call (dropped_g (hT.use (by first | exact SubL.out | repeat (first | exact .refl _ | exact List.nil_sublist _ | refine .cons_cons _ ?_ | refine .cons _ ?_ | refine .append (.refl _) ?_ | exact List.sublist_append_left _ _ | refine .trans ?_ (List.sublist_append_right _ _))))) rfl rfl rfl ?_
                    rintro _ _ ⟨S29, rfl, hG⟩
                    rw [hot] at hG
                    obtain ⟨tv, rfl, hO⟩ := hG
                    obtain ⟨p0, p1, p2, p3, p4, p5, p6, p7, p8, rfl, hpo⟩ := tabO_cells hO
                    refine w_mov rfl (by (conv => lhs; whnf) <;> rfl) ?_
                    refine w_ext rfl (by (conv => lhs; whnf) <;> rfl) (by (conv => lhs; whnf) <;> rfl) ?_
                    refine w_ext rfl (by (conv => lhs; whnf) <;> rfl) (by (conv => lhs; whnf) <;> rfl) ?_
                    refine w_ext rfl (by (conv => lhs; whnf) <;> rfl) (by (conv => lhs; whnf) <;> rfl) ?_
                    refine w_nilck rfl (by (conv => lhs; whnf) <;> rfl) ?_
                    refine x_fa rfl (by (conv => lhs; whnf) <;> rfl) ?_
                    refine x_stp rfl (by (conv => lhs; whnf) <;> rfl) (by (conv => lhs; whnf) <;> rfl) (rfl) (hpo) (by first | exact HasC.out | exact PutC.out) rfl ?_
                    refine w_asg rfl (by (conv => lhs; whnf) <;> rfl) ?_
                    refine w_asg rfl (by (conv => lhs; whnf) <;> rfl) ?_
                    refine w_nil ?_
                    refine tq_n ?_
                    refine c_region ?_
                    refine w_mov rfl (by (conv => lhs; whnf) <;> rfl) ?_
                    refine x_bs1 rfl (by (conv => lhs; whnf) <;> rfl) rfl rfl rfl rfl ?_
                    intro b34
                    refine w_asg rfl (by (conv => lhs; whnf) <;> rfl) ?_
                    refine w_nil ?_
                    have hgl : FL ((b34, B 3 [.int .i64 gx]) :: S29) (.slice (some ⟨b34, 0, none⟩) 1 1) [gx] := (fun w0 L hs => (il_one .here).sub hs)
                    have hmg : Mrg t φ k b t' φ [gx] := .dr (by omega) hot
                    have hO2 : TabO ((b34, B 3 [.int .i64 gx]) :: S29) _ t' := (fun w0 L hs => hO w0 L ((List.sublist_cons_self _ _).trans hs))
                    have hpm1 := hpm
                    refine bq_n ?_
                    refine tq_n ?_
                    exact ⟨(by first | ((repeat (first | with_reducible exact Ag.refl | with_reducible exact Ag.ov | (with_reducible refine Ag.upd ?_ ?_; exact rfl) | with_reducible refine Ag.putn ?_ | (with_reducible refine Ag.ovs ?_ ?_; exact rfl))); done) | (repeat (first | exact Ag.refl | exact Ag.ov | (refine Ag.upd ?_ ?_; exact rfl) | refine Ag.putn ?_ | (refine Ag.ovs ?_ ?_; exact rfl)))), [(11, _), (12, _)], _, (by first | (refine ⟨_, pm2 bf bm (S := S20), ?_⟩; ((first | exact SubL.out | repeat (first | exact .refl _ | exact List.nil_sublist _ | refine .cons_cons _ ?_ | refine .cons _ ?_ | refine .append (.refl _) ?_ | exact List.sublist_append_left _ _ | refine .trans ?_ (List.sublist_append_right _ _)))); done) | (refine ⟨_, pm2 bf bm (S := S33), ?_⟩; ((first | exact SubL.out | repeat (first | exact .refl _ | exact List.nil_sublist _ | refine .cons_cons _ ?_ | refine .cons _ ?_ | refine .append (.refl _) ?_ | exact List.sublist_append_left _ _ | refine .trans ?_ (List.sublist_append_right _ _)))); done) | (refine ⟨_, pm3 bf bm b34 (S := S29), ?_⟩; ((first | exact SubL.out | repeat (first | exact .refl _ | exact List.nil_sublist _ | refine .cons_cons _ ?_ | refine .cons _ ?_ | refine .append (.refl _) ?_ | exact List.sublist_append_left _ _ | refine .trans ?_ (List.sublist_append_right _ _)))); done)), (by repeat (first | exact .nil | refine .cons rfl ?_)), ⟨_, _, _, _, _, _, _, _, _, _, _, _, _, _, _, _, rfl, hpo, by first | exact hO2 | exact hO, hgl, hmg, hpm1, rfl⟩⟩
  · rintro sM LM gM ⟨lv, S', p0, p1, p2, p3, p4, p5, p6, p7, p8, t', gl, φ1, es1, clk1, rfl, hpo, hO, hgl, hmg, hpm1, rfl⟩
    refine c_seq ?_
    refine c_region ?_
    refine w_mov rfl (by (conv => lhs; whnf) <;> rfl) ?_
    refine w_mov rfl (by (conv => lhs; whnf) <;> rfl) ?_
    refine x_call (erase_g (Lf := fun o => (bf, B 74 [p0, p1, p2, p3, p4, p5, p6, p7, p8, .map (some bm)]) :: (bm, o) :: (S' ++ R)) (fun _ _ => .there .here) (fun _ => Rd.own .here rfl) (fun _ => hgl _ _ (.cons _ (.cons _ (List.sublist_append_left _ _)))) hpm1) rfl rfl rfl ?_
    rintro _ _ ⟨rfl, es2, clk2, rfl, hpm2⟩
    refine w_nil ?_
    refine tq_n ?_
    refine c_seq ?_
    refine c_region ?_
    refine w_mov rfl (by (conv => lhs; whnf) <;> rfl) ?_
    refine w_eql rfl (by (conv => lhs; whnf) <;> rfl) (by (conv => lhs; whnf) <;> rfl) ?_
    refine w_asg rfl (by (conv => lhs; whnf) <;> rfl) ?_
    refine w_asg rfl (by (conv => lhs; whnf) <;> rfl) ?_
    refine w_nil ?_
    refine tq_n ?_
    refine c_ret ?_
    exact rq_r (ra_t (by (conv => lhs; whnf) <;> rfl) (ra_t (by (conv => lhs; whnf) <;> rfl) .nil)) (.refl _) (⟨t', _, false, .mrg hmg, rfl, _, _, _, _, _, _, _, _, _, es2, clk2, S', rfl, hpo, hO, hpm2⟩)
end
end Go.Proofs.Ytnmhhelcaibdoaa.Pl
